/- Part 1 of the proof's texts, joined in build order. -/
import Derived.Test.YtmdoaijkaaaglaaProg
import Derived.Test.YtmdoaijkaaaglaaZN70
import Derived.KernelRfl
import Derived.WalkKit
import Derived.Tactics
import Derived.Tactics2
import Derived.OrdersHeld
import Derived.Deep.Draws
import Derived.Laws.Externs
import Derived.Laws.Rows
import Derived.Below
import Derived.Deep.AppendLies
import Derived.Maps.AppendAt
import Derived.OwnWalk
import Derived.Laws.BytesArg
import Derived.Laws.MakeOwn
import Derived.Laws.OwnMore
import Derived.Deep.OwnRows
import Derived.Lib.ConvBytes
import Derived.Laws.Slices
import Derived.RowKit3
import Derived.Deep.LoopGhost
import Derived.Deep.QuietTactic
import Derived.BigQuiet
import Derived.WideLaws
import Derived.Deep.DeepCutAuto
import Derived.Deep.CutBlock
import Derived.Deep.RegionHeld3
import Derived.Lib.AppendStr
import Derived.ArgAppend
import Derived.Laws.IdiomCopy
import Derived.Laws.BitsLemmas
import Derived.RowKit
import Derived.Laws.BitsAllLaws
import Derived.StillTail
set_option linter.unusedVariables false
set_option linter.unusedSimpArgs false
section
namespace Go.Proofs.Ytmdoaijkaaaglaa.Hw
open Go.RowKit Go.Proofs.YtmdoaijkaaaglaaW.PrintWords Go.Proofs.YtmdoaijkaaaglaaW.PrintLast Go.Proofs.YtmdoaijkaaaglaaW.PrintMore
theorem am {p : Prop} (h : p) : Aside0 p := ⟨h⟩
theorem od {p : Prop} [Decidable p] (h : decide p = true := by first|(with_reducible assumption)|assumption) : p := of_decide_eq_true h
section
variable {X : Type} {d : Kd X} {e : TypeId} {W w : World} {base : Nat} {ok : Nat → Prop} {v : Value} {xs : List X}
theorem rr (h : Aside0 (Kd.R d e W base ok v xs)) (f : Kd.R d e W base ok v xs → Kd.R d e w base ok v xs := by intro h_;(with_reducible repeat (first|apply Kd.R_alloc|apply Kd.R_drewN|apply Kd.R_drew));exact h_) : Kd.R d e w base ok v xs := f h.out
theorem cr {A : Option Addr} {n c : Nat} (h : Aside0 (Kd.R d e W base ok (.slice A n c) xs)) (f : Kd.C d W A xs.length xs → Kd.C d w A xs.length xs := by intro h_;repeat (first|exact h_|(with_reducible refine Kd.C_alloc ?_ _)|(with_reducible refine Kd.C_drewN ?_ _)|(with_reducible refine Kd.C_drew ?_))) : Kd.C d w A xs.length xs := f (Kd.R_reads' h.out).2.2
theorem rn (h : Aside0 (Kd.N d e W base ok v xs)) (f : Kd.N d e W base ok v xs → Kd.N d e w base ok v xs := by intro h_;(with_reducible repeat (first|apply Kd.N_alloc|apply Kd.N_drewN|apply Kd.N_drew));exact h_) : Kd.N d e w base ok v xs := f h.out
theorem cb {A : Option Addr} {n : Nat} {w0 : World} (h : Aside0 (Kd.C d w0 A n xs)) (hb : Aside0 (Below w0.heap.size w0 W)) (f : Kd.C d W A n xs → Kd.C d w A n xs := by intro h_;repeat (first|exact h_|(with_reducible refine Kd.C_alloc ?_ _)|(with_reducible refine Kd.C_drewN ?_ _)|(with_reducible refine Kd.C_drew ?_))) : Kd.C d w A n xs := f (Kd.C_below h.out hb.out)
end
theorem bb {B : Nat} {w W W' : World} (h : Aside0 (Below B w W)) (f : Below B w W → Below B w W' := by intro h_;repeat (first|(with_reducible first|exact h_|apply below_alloc|apply pw_below_drewN|apply below_drew1)|exact h_)) : Below B w W' := f h.out
theorem bf {w : World} {g : Nat} {t : TypeId} {cs : Array Value} (h : Aside0 (w.heap[g]? = some (.cells cs t (0,0)))) (i : Nat) : w.frozen? ⟨g,i,none⟩ = false := blk_frozen h.out i
def bz (n m : Nat) : Array Bool := ⟨(List.range n).map fun i => m.testBit i⟩
section
variable {P : Program} {ops : Array Oper} {Q : Exit → Act → World → Prop} {md : Region.Mode} {S : World → Prop} {ds : List Nat} {oi : Oper} {v : Value} {fuel : Nat} {l : Array Bool} {a a' : Act} {w : World}
theorem pu (i N : Nat) (l' : Array Bool) (h : wpAnyLast P md ops Q S ds fuel l' a' w) (hc : anyB md ops l l' i = true := by kernel_rfl)
  (hi : ops[i]? = some oi := by rfl) (hN : oi.dst = some N := by rfl) (hQ : ∀ c a w,Q (.panic c) (a.put oi.dst v) w → Q (.panic c) a w := by exact fun _ _ _ h => h) (hw : Region.wanted oi (yielded ops a.tmps) = true := by rfl)
  (hv : ∀ w',(execOp a.eval oi).run P w' = .ok (.value v) w' := by intro w';go_simp;with_reducible rfl)
  (ha : a.put (some N) v = a' := by simp only [Act.put,List.setIfInBounds_toArray,List.set_cons_zero,List.set_cons_succ,i64_w,i32_w];rfl) : wpAnyLast P md ops Q S ds (fuel + 1) l a w :=
 pure_ l' hi hN hc hQ (Or.inl ⟨hw,hv⟩) ha h
theorem pk {T : Bool × List (List Nat × List Nat)} (i N : Nat) (l' : Array Bool) (hT : Aside0 (rtab md ops = T)) (h : wpAnyLast P md ops Q S ds fuel l' a' w) (hc : anyT T l.toList l'.toList i = true := by kernel_rfl)
  (hi : ops[i]? = some oi := by rfl) (hN : oi.dst = some N := by rfl) (hQ : ∀ c a w,Q (.panic c) (a.put oi.dst v) w → Q (.panic c) a w := by exact fun _ _ _ h => h) (hw : Region.wanted oi (yielded ops a.tmps) = true := by rfl)
  (hv : ∀ w',(execOp a.eval oi).run P w' = .ok (.value v) w' := by intro w';go_simp;with_reducible rfl)
  (ha : a.put (some N) v = a' := by simp only [Act.put,List.setIfInBounds_toArray,List.set_cons_zero,List.set_cons_succ,i64_w,i32_w];rfl) : wpAnyLast P md ops Q S ds (fuel + 1) l a w :=
 pure_ l' hi hN (any_of hT.out hc) hQ (Or.inl ⟨hw,hv⟩) ha h
theorem pz {T : Bool × List (List Nat × List Nat)} (i N : Nat) (l' : Array Bool) (hT : Aside0 (rtab md ops = T)) (h : wpAnyLast P md ops Q S ds fuel l' a' w) (hc : anyT T l.toList l'.toList i = true := by kernel_rfl)
  (hi : ops[i]? = some oi := by rfl) (hN : oi.dst = some N := by rfl) (hQ : ∀ c a w,Q (.panic c) (a.put oi.dst undef) w → Q (.panic c) a w := by exact fun _ _ _ h => h) (hw : Region.wanted oi (yielded ops a.tmps) = false := by rfl)
  (ha : a.put (some N) undef = a' := by simp only [Act.put,List.setIfInBounds_toArray,List.set_cons_zero,List.set_cons_succ,i64_w,i32_w];rfl) : wpAnyLast P md ops Q S ds (fuel + 1) l a w :=
 pure_ l' hi hN (any_of hT.out hc) hQ (Or.inr ⟨hw,rfl⟩) ha h
theorem tu (i N : Nat) (l' : Array Bool) (hS : S w) (h : wpAnyLast P md ops Q S ds fuel l' a' w) (hc : takeB md ops ds l l' i = true := by kernel_rfl)
  (hi : ops[i]? = some oi := by rfl) (hN : oi.dst = some N := by rfl) (hQ : ∀ c a w,Q (.panic c) (a.put oi.dst v) w → Q (.panic c) a w := by exact fun _ _ _ h => h) (hw : Region.wanted oi (yielded ops a.tmps) = true := by rfl)
  (hv : ∀ w',S w' → (execOp a.eval oi).run P w' = .ok (.value v) w' := by intro w' s0;go_simp;with_reducible rfl)
  (ha : a.put (some N) v = a' := by simp only [Act.put,List.setIfInBounds_toArray,List.set_cons_zero,List.set_cons_succ,i64_w,i32_w];rfl) : wpAnyLast P md ops Q S ds (fuel + 1) l a w :=
 take_ l' hi hN hc hQ (Or.inl ⟨hw,hv⟩) hS ha h
theorem tk {T : Bool × List (List Nat × List Nat)} {B : List Nat} (i N : Nat) (l' : Array Bool) (hT : Aside0 (rtab md ops = T)) (hB : Aside0 (waitsOk T.2 B = true)) (hS : S w) (h : wpAnyLast P md ops Q S ds fuel l' a' w) (hc : takeW T B ds l.toList l'.toList i = true := by kernel_rfl)
  (hi : ops[i]? = some oi := by rfl) (hN : oi.dst = some N := by rfl) (hQ : ∀ c a w,Q (.panic c) (a.put oi.dst v) w → Q (.panic c) a w := by exact fun _ _ _ h => h) (hw : Region.wanted oi (yielded ops a.tmps) = true := by rfl)
  (hv : ∀ w',S w' → (execOp a.eval oi).run P w' = .ok (.value v) w' := by intro w' s0;go_simp;with_reducible rfl)
  (ha : a.put (some N) v = a' := by simp only [Act.put,List.setIfInBounds_toArray,List.set_cons_zero,List.set_cons_succ,i64_w,i32_w];rfl) : wpAnyLast P md ops Q S ds (fuel + 1) l a w :=
 take_ l' hi hN (take_ofW hT.out hB.out hc) hQ (Or.inl ⟨hw,hv⟩) hS ha h
theorem on {T : Bool × List (List Nat × List Nat)} (i N : Nat) (l' : Array Bool) (hT : Aside0 (rtab md ops = T)) (h : ∀ K : Act → World → Prop,Shut (∀ a' w',S w' → (S w' → wpAnyLast P md ops Q S ds fuel l' a' w') → K a' w') → if Region.wanted oi (yielded ops a.tmps) = true then Oper.wp P oi a w K Q else K (a.put (some N) undef) w)
  (hc : (readyT T.2 l.toList == [i] && l.toList.set i true == l'.toList) = true := by kernel_rfl) (hi : ops[i]? = some oi := by rfl) (hN : oi.dst = some N := by rfl) (hd : i ∉ ds := by decide) : wpAnyLast P md ops Q S ds (fuel + 1) l a w := one_ l' hi hN (one_of hT.out hc) hd h
theorem nm (N : Nat) (h : wpAnyLast P md ops Q S ds fuel l a' w) (ha : a.put (some N) v = a' := by simp only [Act.put,List.setIfInBounds_toArray,List.set_cons_zero,List.set_cons_succ,i64_w,i32_w];rfl) : wpAnyLast P md ops Q S ds fuel l (a.put (some N) v) w := norm_ ha h
end
section
variable {P : Program} {ops : Array Oper} {Q : Exit → Act → World → Prop}
theorem goesX_ {rest : List Oper} {oi : Oper} {a : Act} {w : World} (N : Option Tmp) (hd : oi.dst = N) (hg : oi.guard = none) {f : FuncId} {xs : Array Operand} {ts : Array TypeId} (args : Array Value)
  (hop : oi.op = .call { callee := .value (.func f),args := xs,argTypes := ts }) (hargs : xs.map a.eval = args) (v : Value) (hrun : (callFunc f args).run P w = .ok (.value v) w)
  (h : wpList P ops Q rest (a.put N v) w) : wpList P ops Q (oi :: rest) a w := by
 refine wpList_plain hg fun K hK => ?_
 have hr : (execOp a.eval oi).run P w = .ok (.value v) w := by
  unfold execOp
  simp [hop,resolve,Deferred.ofValue,invoke,Act.eval,hargs,hrun]
 unfold Oper.wp
 rw [hr,Oper.upon_value]
 subst hd
 exact hK _ _ h
end
theorem cut_cast {α : Type} {R : α → List Value → Prop} {sz : Nat} {w : World} {A : Option Addr} {n m : Nat} {xs : List α} (e : n = m) (h : ReadsRow R sz w A n xs) : ReadsRow R sz w A m xs := e ▸ h
theorem R_open {k : IntKind} {e base : Nat} {w : World} {ok : Nat → Prop} {v : Value} {xs : List Int} (h : Kd.R (Kd.int k) e w base ok v xs) (hn : 0 < xs.length) :
  ∃ b c,v = .slice (some ⟨b,0,none⟩) xs.length c ∧ base ≤ b ∧ w.ownsRow base e 1 (.slice (some ⟨b,0,none⟩) xs.length c) xs.length (nums k xs) := by
 have ho := Kd.own_of_R h
 rcases ho.2 with ⟨_,h0⟩|⟨b,c,cur,rfl,hb,_⟩
 ·omega
 ·exact ⟨b,c,rfl,hb,ho⟩
theorem R_made {k : IntKind} {e base : Nat} {w : World} {ok : Nat → Prop} {v : Value} {xs : List Int} (h : w.ownsRow base e 1 v xs.length (nums k xs)) (hok : ∀ b,v.ownBlock = some b → ok b) : Kd.R (Kd.int k) e w base ok v xs := Kd.R_of_own h hok
def bits_Add64.f (a0 : Int) (a1 : Int) (a2 : Int) : Option (Int × Int) :=
 if 0 ≤ a0 then (if 0 ≤ a1 then (if 0 ≤ a2 then (if a2 ≤ 1 then some ((a0 + a1 + a2) % 18446744073709551616,(a0 + a1 + a2) / 18446744073709551616) else none) else none) else none) else none
theorem bits_Add64.runs (a0 a1 a2 r1 r2 : Int) (w : World) (h : bits_Add64.f a0 a1 a2 = some (r1,r2)) :
  (callFunc 84 #[.int .u64 a0,.int .u64 a1,.int .u64 a2]).run Try.prog w = .ok (.value (.tuple #[.int .u64 r1,.int .u64 r2])) w := by
 unfold bits_Add64.f at h
 split at h
 ·split at h
  ·split at h
   ·split at h
    ·simp only [Option.some.injEq,Prod.mk.injEq] at h
     obtain ⟨rfl,rfl⟩ := h
     rw [run_callFunc_extern Try.func84 (by kernel_rfl) (by kernel_rfl) (by kernel_rfl) (e := add64Entry) (by kernel_rfl),run_add64 a0 a1 a2 (by assumption) (by assumption) (by assumption) (by assumption)]
     rfl
    ·simp at h
   ·simp at h
  ·simp at h
 ·simp at h
end Go.Proofs.Ytmdoaijkaaaglaa.Hw
end
section
namespace Go.Proofs.Ytmdoaijkaaaglaa.Pr
open Go.RowKit Go.Proofs.YtmdoaijkaaaglaaW.PrintWords Go.Proofs.YtmdoaijkaaaglaaW.PrintLast Go.Proofs.YtmdoaijkaaaglaaW.PrintMore
attribute [local go_sem] max2_int min2_int max_two min_two max_three min_three max_four min_four
open Go.Proofs.Ytmdoaijkaaaglaa.Hw
def errW : Option Int → Value
 | none => .nilIface
 | some c => .iface 0 (.int .i64 c)
theorem errW_none : errW none = .nilIface := rfl
theorem errW_some (c : Int) : errW (some c) = .iface 0 (.int .i64 c) := rfl
theorem info3 : (Try.prog.info? 3).map (fun i => (i.zero,i.size,i.bytes)) = some (some (.int .i64 0),1,8) := by kernel_rfl
theorem info22 : (Try.prog.info? 22).map (fun i => (i.zero,i.size,i.bytes)) = some (some (.int .u64 0),1,8) := by kernel_rfl
theorem info40 : (Try.prog.info? 40).map (fun i => (i.zero,i.size,i.bytes)) = some (some (.slice none 0 0),1,24) := by kernel_rfl
structure S56 where
 f0 : Int
 f1 : Int
def z56 : S56 := ⟨(0 : Int),(0 : Int)⟩
def k56 : Kd S56 := Kd.iso (Kd.pair (Kd.int .u64) (Kd.int .u64)) (fun x : S56 => (x.f0,x.f1))
theorem k56_open {w : World} {x : S56} {cs : List Value} (h : k56.K w x cs) : cs = [.int .u64 x.f0,.int .u64 x.f1] := by
 obtain ⟨_,_,rfl,rfl,rfl⟩ := h
 exact rfl
theorem k56_mkM (w : World) (base : Nat) (ok : Nat → Prop) (x : S56)  : k56.M w base ok x [.int .u64 x.f0,.int .u64 x.f1] := ⟨[.int .u64 x.f0],[.int .u64 x.f1],rfl,rfl,rfl⟩
def rd_T56 (xs : List S56) (i : Int) : S56 := xs.getD i.toNat z56
theorem at_T56 {w : World} {A : Option Addr} {n : Nat} {xs : List S56} (h : Kd.C k56 w A n xs) (i : Int) (h0 : 0 ≤ i) (h1 : i < n) : ∃ ad ,A = some ad ∧ w.cell? (ad.add (i.toNat * 2)) = some (.int .u64 (rd_T56 xs i).f0) ∧ w.cell? ⟨(ad.add (i.toNat * 2)).block,(ad.add (i.toNat * 2)).off + 1,none⟩ = some (.int .u64 (rd_T56 xs i).f1) := by
 obtain ⟨ad,c,e,_,hK,hc0⟩ := Kd.C_get h z56 i h0 h1
 have hc : ∀ j u,c[j]? = some u → w.cell? (ad.add (i.toNat * 2 + j)) = some u := hc0
 obtain rfl := k56_open hK
 exact ⟨ad,e,hc 0 _ rfl,by rw [← add_field _ _ 1 (by omega)];exact hc 1 _ rfl⟩
def rd_L2 (xs : List (List Int)) (i : Int) : (List Int) := xs.getD i.toNat ([] : List Int)
theorem at_L2 {w : World} {A : Option Addr} {n : Nat} {xs : List (List Int)} (h : Kd.C (Kd.slice 22 (Kd.int .u64)) w A n xs) (i : Int) (h0 : 0 ≤ i) (h1 : i < n) : ∃ ad A0 c0,A = some ad ∧ w.cell? (ad.add i.toNat) = some (.slice A0 (rd_L2 xs i).length c0) ∧ (rd_L2 xs i).length ≤ c0 ∧ (Kd.int .u64).C w A0 (rd_L2 xs i).length (rd_L2 xs i) := by
 obtain ⟨ad,c,e,_,hK,hc0⟩ := Kd.C_get h ([] : List Int) i h0 h1
 have hc : ∀ j u,c[j]? = some u → w.cell? (ad.add (i.toNat * 1 + j)) = some u := hc0
 obtain ⟨A0,c0,rfl,l0,g0⟩ := hK
 exact ⟨ad,A0,c0,e,by have hq := hc 0 _ rfl;rwa [Nat.mul_one,Nat.add_zero] at hq,l0,g0⟩
def bits_Len64.j0 : Nat → Int → Int → Option (Int)
 | 0,_,_ => none
 | k + 1,x0,x2 => if x0 ≥ 65536 then (if (x0 / 65536) ≥ 256 then (if 0 ≤ (((x0 / 65536) / 256) % 256) then (if (((x0 / 65536) / 256) % 256) < 256 then (some (wrap64 ((wrap64 ((wrap64 (x2 + 16)) + 8)) + (wrap64 (bt (⟨#[0,1,2,2,3,3,3,3,4,4,4,4,4,4,4,4,5,5,5,5,5,5,5,5,5,5,5,5,5,5,5,5,6,6,6,6,6,6,6,6,6,6,6,6,6,6,6,6,6,6,6,6,6,6,6,6,6,6,6,6,6,6,6,6,7,7,7,7,7,7,7,7,7,7,7,7,7,7,7,7,7,7,7,7,7,7,7,7,7,7,7,7,7,7,7,7,7,7,7,7,7,7,7,7,7,7,7,7,7,7,7,7,7,7,7,7,7,7,7,7,7,7,7,7,7,7,7,7,8,8,8,8,8,8,8,8,8,8,8,8,8,8,8,8,8,8,8,8,8,8,8,8,8,8,8,8,8,8,8,8,8,8,8,8,8,8,8,8,8,8,8,8,8,8,8,8,8,8,8,8,8,8,8,8,8,8,8,8,8,8,8,8,8,8,8,8,8,8,8,8,8,8,8,8,8,8,8,8,8,8,8,8,8,8,8,8,8,8,8,8,8,8,8,8,8,8,8,8,8,8,8,8,8,8,8,8,8,8,8,8,8,8,8,8,8,8,8,8,8,8,8,8,8,8,8,8]⟩ : ByteArray) (((x0 / 65536) / 256) % 256)))))) else (none)) else (none)) else (if 0 ≤ ((x0 / 65536) % 256) then (if ((x0 / 65536) % 256) < 256 then (some (wrap64 ((wrap64 (x2 + 16)) + (wrap64 (bt (⟨#[0,1,2,2,3,3,3,3,4,4,4,4,4,4,4,4,5,5,5,5,5,5,5,5,5,5,5,5,5,5,5,5,6,6,6,6,6,6,6,6,6,6,6,6,6,6,6,6,6,6,6,6,6,6,6,6,6,6,6,6,6,6,6,6,7,7,7,7,7,7,7,7,7,7,7,7,7,7,7,7,7,7,7,7,7,7,7,7,7,7,7,7,7,7,7,7,7,7,7,7,7,7,7,7,7,7,7,7,7,7,7,7,7,7,7,7,7,7,7,7,7,7,7,7,7,7,7,7,8,8,8,8,8,8,8,8,8,8,8,8,8,8,8,8,8,8,8,8,8,8,8,8,8,8,8,8,8,8,8,8,8,8,8,8,8,8,8,8,8,8,8,8,8,8,8,8,8,8,8,8,8,8,8,8,8,8,8,8,8,8,8,8,8,8,8,8,8,8,8,8,8,8,8,8,8,8,8,8,8,8,8,8,8,8,8,8,8,8,8,8,8,8,8,8,8,8,8,8,8,8,8,8,8,8,8,8,8,8,8,8,8,8,8,8,8,8,8,8,8,8,8,8,8,8,8,8]⟩ : ByteArray) ((x0 / 65536) % 256)))))) else (none)) else (none))) else (if x0 ≥ 256 then (if 0 ≤ ((x0 / 256) % 256) then (if ((x0 / 256) % 256) < 256 then (some (wrap64 ((wrap64 (x2 + 8)) + (wrap64 (bt (⟨#[0,1,2,2,3,3,3,3,4,4,4,4,4,4,4,4,5,5,5,5,5,5,5,5,5,5,5,5,5,5,5,5,6,6,6,6,6,6,6,6,6,6,6,6,6,6,6,6,6,6,6,6,6,6,6,6,6,6,6,6,6,6,6,6,7,7,7,7,7,7,7,7,7,7,7,7,7,7,7,7,7,7,7,7,7,7,7,7,7,7,7,7,7,7,7,7,7,7,7,7,7,7,7,7,7,7,7,7,7,7,7,7,7,7,7,7,7,7,7,7,7,7,7,7,7,7,7,7,8,8,8,8,8,8,8,8,8,8,8,8,8,8,8,8,8,8,8,8,8,8,8,8,8,8,8,8,8,8,8,8,8,8,8,8,8,8,8,8,8,8,8,8,8,8,8,8,8,8,8,8,8,8,8,8,8,8,8,8,8,8,8,8,8,8,8,8,8,8,8,8,8,8,8,8,8,8,8,8,8,8,8,8,8,8,8,8,8,8,8,8,8,8,8,8,8,8,8,8,8,8,8,8,8,8,8,8,8,8,8,8,8,8,8,8,8,8,8,8,8,8,8,8,8,8,8,8]⟩ : ByteArray) ((x0 / 256) % 256)))))) else (none)) else (none)) else (if 0 ≤ ((x0) % 256) then (if ((x0) % 256) < 256 then (some (wrap64 (x2 + (wrap64 (bt (⟨#[0,1,2,2,3,3,3,3,4,4,4,4,4,4,4,4,5,5,5,5,5,5,5,5,5,5,5,5,5,5,5,5,6,6,6,6,6,6,6,6,6,6,6,6,6,6,6,6,6,6,6,6,6,6,6,6,6,6,6,6,6,6,6,6,7,7,7,7,7,7,7,7,7,7,7,7,7,7,7,7,7,7,7,7,7,7,7,7,7,7,7,7,7,7,7,7,7,7,7,7,7,7,7,7,7,7,7,7,7,7,7,7,7,7,7,7,7,7,7,7,7,7,7,7,7,7,7,7,8,8,8,8,8,8,8,8,8,8,8,8,8,8,8,8,8,8,8,8,8,8,8,8,8,8,8,8,8,8,8,8,8,8,8,8,8,8,8,8,8,8,8,8,8,8,8,8,8,8,8,8,8,8,8,8,8,8,8,8,8,8,8,8,8,8,8,8,8,8,8,8,8,8,8,8,8,8,8,8,8,8,8,8,8,8,8,8,8,8,8,8,8,8,8,8,8,8,8,8,8,8,8,8,8,8,8,8,8,8,8,8,8,8,8,8,8,8,8,8,8,8,8,8,8,8,8,8]⟩ : ByteArray) ((x0) % 256)))))) else (none)) else (none)))
def bits_Len64.f (k : Nat) (a0 : Int) : Option (Int) := if a0 ≥ 4294967296 then (bits_Len64.j0 k (a0 / 4294967296) 32) else (bits_Len64.j0 k a0 0)
theorem bits_Len64.mono_l : ∀ k,(∀ y0 y1,LeO (bits_Len64.j0 k y0 y1) (bits_Len64.j0 (k + 1) y0 y1))
 | 0 => fun _ _ r h => by simp [bits_Len64.j0] at h
 | k + 1 => by
  have ih0 := bits_Len64.mono_l k
  ·intro y0 y1
   unfold bits_Len64.j0
   repeat' first
   | (with_reducible exact ih0 _ _)
   | (with_reducible exact LeO.refl _)
   | (with_reducible exact LeO.none _)
   | (with_reducible refine LeO.ite ?_ ?_)
   | (with_reducible refine LeO.bind ?_ (fun _ => ?_))
   | exact ih0 _ _
   | exact LeO.none _
   | refine LeO.ite ?_ ?_
   | refine LeO.bind ?_ (fun _ => ?_)
theorem bits_Len64.mono : ∀ a0 k,LeO (bits_Len64.f k a0) (bits_Len64.f (k + 1) a0) := by
 intro a0 k
 have ih0 := bits_Len64.mono_l k
 unfold bits_Len64.f
 repeat' first
   | (with_reducible exact ih0 _ _)
   | (with_reducible exact LeO.refl _)
   | (with_reducible exact LeO.none _)
   | (with_reducible refine LeO.ite ?_ ?_)
   | (with_reducible refine LeO.bind ?_ (fun _ => ?_))
   | exact ih0 _ _
   | exact LeO.none _
   | refine LeO.ite ?_ ?_
   | refine LeO.bind ?_ (fun _ => ?_)
set_option maxHeartbeats 8000000 in
set_option maxRecDepth 100000 in
theorem bits_Len64.calls (k : Nat) (a0 : Int) (r : Int) (w : World) (h : bits_Len64.f k a0 = some r) :
  Calls Try.prog 99 #[.int .u64 a0] w fun e w' => e = .returned (.int .i64 r) ∧ Drawn0 w w' := by
 have H : (if a0 ≥ 4294967296 then (bits_Len64.j0 k (a0 / 4294967296) 32) else (bits_Len64.j0 k a0 0)) = some r := h
 clear h
 have HC2 := am H
 clear H
 go_enter Try.func99,Try.ntmps99
 go_upto_if 4 with (fail)
 go_cut [0,2] (fun v0 v2 wc => ∃ (kq : Nat) (x0_1 : Int) (x2_1 : Int),v0 = .int .u64 x0_1 ∧ v2 = .int .i64 x2_1 ∧ Aside0 (bits_Len64.j0 kq x0_1 x2_1 = some r) ∧ Aside0 (kq ≤ k) ∧ Drawn0 w wc)
 case first =>
  have H := HC2.out
  clear HC2
  by_cases c3 : a0 ≥ 4294967296
  ·rw [if_pos c3] at H
   have c3b0 : decide (4294967296 ≤ a0) = true := decide_eq_true c3
   clear c3
   (first|rw [c3b0]|(simp only [i64_w,i32_w];rw [c3b0])|skip)
   have H' := am H
   clear H
   go_wp2
   go_meet
   case rel => exact ⟨_,(a0 / 4294967296),(32),(by first|rfl|(simp;done)|(simp [*];done)),(by first|rfl|(simp;done)|(simp [*];done)),H',⟨by first|omega|exact Nat.le_refl _⟩,by repeat (first|exact Drawn0.refl _|apply Drawn0.step)⟩
  ·rw [if_neg c3] at H
   have c3b0 : decide (4294967296 ≤ a0) = false := decide_eq_false c3
   clear c3
   (first|rw [c3b0]|(simp only [i64_w,i32_w];rw [c3b0])|skip)
   have H' := am H
   clear H
   go_wp2
   go_meet
   case rel => exact ⟨_,(a0),(0),(by first|rfl|(simp;done)|(simp [*];done)),(by first|rfl|(simp;done)|(simp [*];done)),H',⟨by first|omega|exact Nat.le_refl _⟩,by repeat (first|exact Drawn0.refl _|apply Drawn0.step)⟩
 case rest =>
  clear HC2
  try clear p2
  try clear c3
  try clear c3b0
  obtain ⟨kq,x0_1,x2_1,rfl,rfl,HA,HJ1,⟨mc1,rfl⟩⟩ := hcut
  cases kq with
  | zero => exact absurd HA.out (by simp [bits_Len64.j0])
  | succ kj1 =>
   have H := HA.out
   clear HA
   simp only [bits_Len64.j0] at H
   by_cases c4 : x0_1 ≥ 65536
   ·rw [if_pos c4] at H
    have c4b0 : decide (65536 ≤ x0_1) = true := decide_eq_true c4
    clear c4
    by_cases c5 : (x0_1 / 65536) ≥ 256
    ·rw [if_pos c5] at H
     have c5b0 : decide (256 ≤ (x0_1 / 65536)) = true := decide_eq_true c5
     clear c5
     obtain ⟨ji6,hji6⟩ : ∃ j_ : Int,(((x0_1 / 65536) / 256) % 256) = j_ := ⟨_,rfl⟩
     first|rw [hji6] at H|simp only [hji6] at H
     by_cases c7 : 0 ≤ (ji6)
     ·rw [if_pos c7] at H
      have c7b0 : decide (0 ≤ (ji6)) = true := decide_eq_true c7
      clear c7
      by_cases c8 : (ji6) < 256
      ·rw [if_pos c8] at H
       have c8b0 : decide ((ji6) < 256) = true := decide_eq_true c8
       clear c8
       obtain rfl := Option.some.inj H
       have p9 : 0 ≤ ((ji6) : Int) := od
       have q9 : (ji6) < (256 : Int) := od
       have hx9 := bt_at (⟨#[0,1,2,2,3,3,3,3,4,4,4,4,4,4,4,4,5,5,5,5,5,5,5,5,5,5,5,5,5,5,5,5,6,6,6,6,6,6,6,6,6,6,6,6,6,6,6,6,6,6,6,6,6,6,6,6,6,6,6,6,6,6,6,6,7,7,7,7,7,7,7,7,7,7,7,7,7,7,7,7,7,7,7,7,7,7,7,7,7,7,7,7,7,7,7,7,7,7,7,7,7,7,7,7,7,7,7,7,7,7,7,7,7,7,7,7,7,7,7,7,7,7,7,7,7,7,7,7,8,8,8,8,8,8,8,8,8,8,8,8,8,8,8,8,8,8,8,8,8,8,8,8,8,8,8,8,8,8,8,8,8,8,8,8,8,8,8,8,8,8,8,8,8,8,8,8,8,8,8,8,8,8,8,8,8,8,8,8,8,8,8,8,8,8,8,8,8,8,8,8,8,8,8,8,8,8,8,8,8,8,8,8,8,8,8,8,8,8,8,8,8,8,8,8,8,8,8,8,8,8,8,8,8,8,8,8,8,8,8,8,8,8,8,8,8,8,8,8,8,8,8,8,8,8,8,8]⟩ : ByteArray) (ji6)
       replace p9 := eq_true p9
       replace q9 := eq_true q9
       go_wp2
       go_ret
       exact ⟨by first|rfl|(simp;done)|(simp only [← hji6] <;> (first|rfl|simp))|(simp [*];done),by repeat (first|exact Drawn0.refl _|apply Drawn0.step)⟩
      ·rw [if_neg c8] at H
       exact absurd H (by simp)
     ·rw [if_neg c7] at H
      exact absurd H (by simp)
    ·rw [if_neg c5] at H
     have c5b0 : decide (256 ≤ (x0_1 / 65536)) = false := decide_eq_false c5
     clear c5
     obtain ⟨ji10,hji10⟩ : ∃ j_ : Int,((x0_1 / 65536) % 256) = j_ := ⟨_,rfl⟩
     first|rw [hji10] at H|simp only [hji10] at H
     by_cases c11 : 0 ≤ (ji10)
     ·rw [if_pos c11] at H
      have c11b0 : decide (0 ≤ (ji10)) = true := decide_eq_true c11
      clear c11
      by_cases c12 : (ji10) < 256
      ·rw [if_pos c12] at H
       have c12b0 : decide ((ji10) < 256) = true := decide_eq_true c12
       clear c12
       obtain rfl := Option.some.inj H
       have p13 : 0 ≤ ((ji10) : Int) := od
       have q13 : (ji10) < (256 : Int) := od
       have hx13 := bt_at (⟨#[0,1,2,2,3,3,3,3,4,4,4,4,4,4,4,4,5,5,5,5,5,5,5,5,5,5,5,5,5,5,5,5,6,6,6,6,6,6,6,6,6,6,6,6,6,6,6,6,6,6,6,6,6,6,6,6,6,6,6,6,6,6,6,6,7,7,7,7,7,7,7,7,7,7,7,7,7,7,7,7,7,7,7,7,7,7,7,7,7,7,7,7,7,7,7,7,7,7,7,7,7,7,7,7,7,7,7,7,7,7,7,7,7,7,7,7,7,7,7,7,7,7,7,7,7,7,7,7,8,8,8,8,8,8,8,8,8,8,8,8,8,8,8,8,8,8,8,8,8,8,8,8,8,8,8,8,8,8,8,8,8,8,8,8,8,8,8,8,8,8,8,8,8,8,8,8,8,8,8,8,8,8,8,8,8,8,8,8,8,8,8,8,8,8,8,8,8,8,8,8,8,8,8,8,8,8,8,8,8,8,8,8,8,8,8,8,8,8,8,8,8,8,8,8,8,8,8,8,8,8,8,8,8,8,8,8,8,8,8,8,8,8,8,8,8,8,8,8,8,8,8,8,8,8,8,8]⟩ : ByteArray) (ji10)
       replace p13 := eq_true p13
       replace q13 := eq_true q13
       go_wp2
       go_ret
       exact ⟨by first|rfl|(simp;done)|(simp only [← hji10] <;> (first|rfl|simp))|(simp [*];done),by repeat (first|exact Drawn0.refl _|apply Drawn0.step)⟩
      ·rw [if_neg c12] at H
       exact absurd H (by simp)
     ·rw [if_neg c11] at H
      exact absurd H (by simp)
   ·rw [if_neg c4] at H
    have c4b0 : decide (65536 ≤ x0_1) = false := decide_eq_false c4
    clear c4
    by_cases c14 : x0_1 ≥ 256
    ·rw [if_pos c14] at H
     have c14b0 : decide (256 ≤ x0_1) = true := decide_eq_true c14
     clear c14
     obtain ⟨ji15,hji15⟩ : ∃ j_ : Int,((x0_1 / 256) % 256) = j_ := ⟨_,rfl⟩
     first|rw [hji15] at H|simp only [hji15] at H
     by_cases c16 : 0 ≤ (ji15)
     ·rw [if_pos c16] at H
      have c16b0 : decide (0 ≤ (ji15)) = true := decide_eq_true c16
      clear c16
      by_cases c17 : (ji15) < 256
      ·rw [if_pos c17] at H
       have c17b0 : decide ((ji15) < 256) = true := decide_eq_true c17
       clear c17
       obtain rfl := Option.some.inj H
       have p18 : 0 ≤ ((ji15) : Int) := od
       have q18 : (ji15) < (256 : Int) := od
       have hx18 := bt_at (⟨#[0,1,2,2,3,3,3,3,4,4,4,4,4,4,4,4,5,5,5,5,5,5,5,5,5,5,5,5,5,5,5,5,6,6,6,6,6,6,6,6,6,6,6,6,6,6,6,6,6,6,6,6,6,6,6,6,6,6,6,6,6,6,6,6,7,7,7,7,7,7,7,7,7,7,7,7,7,7,7,7,7,7,7,7,7,7,7,7,7,7,7,7,7,7,7,7,7,7,7,7,7,7,7,7,7,7,7,7,7,7,7,7,7,7,7,7,7,7,7,7,7,7,7,7,7,7,7,7,8,8,8,8,8,8,8,8,8,8,8,8,8,8,8,8,8,8,8,8,8,8,8,8,8,8,8,8,8,8,8,8,8,8,8,8,8,8,8,8,8,8,8,8,8,8,8,8,8,8,8,8,8,8,8,8,8,8,8,8,8,8,8,8,8,8,8,8,8,8,8,8,8,8,8,8,8,8,8,8,8,8,8,8,8,8,8,8,8,8,8,8,8,8,8,8,8,8,8,8,8,8,8,8,8,8,8,8,8,8,8,8,8,8,8,8,8,8,8,8,8,8,8,8,8,8,8,8]⟩ : ByteArray) (ji15)
       replace p18 := eq_true p18
       replace q18 := eq_true q18
       go_wp2
       go_ret
       exact ⟨by first|rfl|(simp;done)|(simp only [← hji15] <;> (first|rfl|simp))|(simp [*];done),by repeat (first|exact Drawn0.refl _|apply Drawn0.step)⟩
      ·rw [if_neg c17] at H
       exact absurd H (by simp)
     ·rw [if_neg c16] at H
      exact absurd H (by simp)
    ·rw [if_neg c14] at H
     have c14b0 : decide (256 ≤ x0_1) = false := decide_eq_false c14
     clear c14
     obtain ⟨ji19,hji19⟩ : ∃ j_ : Int,((x0_1) % 256) = j_ := ⟨_,rfl⟩
     first|rw [hji19] at H|simp only [hji19] at H
     by_cases c20 : 0 ≤ (ji19)
     ·rw [if_pos c20] at H
      have c20b0 : decide (0 ≤ (ji19)) = true := decide_eq_true c20
      clear c20
      by_cases c21 : (ji19) < 256
      ·rw [if_pos c21] at H
       have c21b0 : decide ((ji19) < 256) = true := decide_eq_true c21
       clear c21
       obtain rfl := Option.some.inj H
       have p22 : 0 ≤ ((ji19) : Int) := od
       have q22 : (ji19) < (256 : Int) := od
       have hx22 := bt_at (⟨#[0,1,2,2,3,3,3,3,4,4,4,4,4,4,4,4,5,5,5,5,5,5,5,5,5,5,5,5,5,5,5,5,6,6,6,6,6,6,6,6,6,6,6,6,6,6,6,6,6,6,6,6,6,6,6,6,6,6,6,6,6,6,6,6,7,7,7,7,7,7,7,7,7,7,7,7,7,7,7,7,7,7,7,7,7,7,7,7,7,7,7,7,7,7,7,7,7,7,7,7,7,7,7,7,7,7,7,7,7,7,7,7,7,7,7,7,7,7,7,7,7,7,7,7,7,7,7,7,8,8,8,8,8,8,8,8,8,8,8,8,8,8,8,8,8,8,8,8,8,8,8,8,8,8,8,8,8,8,8,8,8,8,8,8,8,8,8,8,8,8,8,8,8,8,8,8,8,8,8,8,8,8,8,8,8,8,8,8,8,8,8,8,8,8,8,8,8,8,8,8,8,8,8,8,8,8,8,8,8,8,8,8,8,8,8,8,8,8,8,8,8,8,8,8,8,8,8,8,8,8,8,8,8,8,8,8,8,8,8,8,8,8,8,8,8,8,8,8,8,8,8,8,8,8,8,8]⟩ : ByteArray) (ji19)
       replace p22 := eq_true p22
       replace q22 := eq_true q22
       go_wp2
       go_ret
       exact ⟨by first|rfl|(simp;done)|(simp only [← hji19] <;> (first|rfl|simp))|(simp [*];done),by repeat (first|exact Drawn0.refl _|apply Drawn0.step)⟩
      ·rw [if_neg c21] at H
       exact absurd H (by simp)
     ·rw [if_neg c20] at H
      exact absurd H (by simp)
def field_width.f (k : Nat) (a0 : Int) : Option (Int) := (bits_Len64.f k a0).bind fun t101 => (some (IntKind.u64.wrap (t101)))
theorem field_width.mono : ∀ a0 k,LeO (field_width.f k a0) (field_width.f (k + 1) a0) := by
 intro a0 k
 unfold field_width.f
 repeat' first
   | (with_reducible exact bits_Len64.mono _ _)
   | (with_reducible exact LeO.refl _)
   | (with_reducible exact LeO.none _)
   | (with_reducible refine LeO.ite ?_ ?_)
   | (with_reducible refine LeO.bind ?_ (fun _ => ?_))
   | exact bits_Len64.mono _ _
   | exact LeO.none _
   | refine LeO.ite ?_ ?_
   | refine LeO.bind ?_ (fun _ => ?_)
set_option maxHeartbeats 8000000 in
set_option maxRecDepth 100000 in
theorem field_width.calls (k : Nat) (a0 : Int) (r : Int) (w : World) (h : field_width.f k a0 = some r) :
  Calls Try.prog 83 #[.int .u64 a0] w fun e w' => e = .returned (.int .u64 r) ∧ Drawn0 w w' := by
 have H : ((bits_Len64.f k a0).bind fun t101 => (some (IntKind.u64.wrap (t101)))) = some r := h
 clear h
 replace H := Option.bind_eq_some_iff.mp H
 obtain ⟨t101,A20,H⟩ := H
 try dsimp only at H
 have A2 := am A20
 clear A20
 obtain rfl := Option.some.inj H
 go_enter Try.func83,Try.ntmps83
 go_wp2_with (first|((with_reducible refine gate_callee (f := 99) rfl ?_);refine goesL_ (some 4) rfl rfl Try.func99 (by kernel_rfl) rfl #[.int .u64 a0] rfl (by (try simp only [List.map_toArray,List.map_cons,List.map_nil]);first|done|rfl|(simp only [List.length_drop,List.length_take];rfl)) ?_;(with_reducible refine (bits_Len64.calls k a0 t101 _ A2.out).mono ?_);rintro e w' ⟨rfl,⟨nd,rfl⟩⟩;refine ⟨_,rfl,?_⟩))
 go_ret
 exact ⟨by first|rfl|(simp;done)|(simp [*];done),by repeat (first|exact Drawn0.refl _|apply Drawn0.step)⟩
def field_fold.l0 : Nat → Int → Int → Int → Int → Option (Int)
 | 0,_,_,_,_ => none
 | k + 1,x0,x1,x2,x7 => if x1 = 0 then (if x2 > x0 then (if 0 ≤ x7 then (if 0 ≤ (IntKind.u64.wrap (64 - x7)) then ((bits_Add64.f (Go.bits .or .u64 (shr .u64 x2 x7) (shl .u64 x1 (IntKind.u64.wrap (64 - x7)))) (Go.bits .and .u64 x2 x0) 0).bind fun bt103 => (field_fold.l0 k x0 (IntKind.u64.wrap ((shr .u64 x1 x7) + bt103.2)) bt103.1 x7)) else (none)) else (none)) else (if x2 = x0 then (some 0) else (some x2))) else (if 0 ≤ x7 then (if 0 ≤ (IntKind.u64.wrap (64 - x7)) then ((bits_Add64.f (Go.bits .or .u64 (shr .u64 x2 x7) (shl .u64 x1 (IntKind.u64.wrap (64 - x7)))) (Go.bits .and .u64 x2 x0) 0).bind fun bt105 => (field_fold.l0 k x0 (IntKind.u64.wrap ((shr .u64 x1 x7) + bt105.2)) bt105.1 x7)) else (none)) else (none))
def field_fold.f (k : Nat) (a0 : Int) (a1 : Int) (a2 : Int) : Option (Int) := (field_width.f k a0).bind fun t102 => (field_fold.l0 k a0 a1 a2 t102)
theorem field_fold.mono_l : ∀ k,(∀ y0 y1 y2 y3,LeO (field_fold.l0 k y0 y1 y2 y3) (field_fold.l0 (k + 1) y0 y1 y2 y3))
 | 0 => fun _ _ _ _ r h => by simp [field_fold.l0] at h
 | k + 1 => by
  have ih0 := field_fold.mono_l k
  ·intro y0 y1 y2 y3
   unfold field_fold.l0
   repeat' first
   | (with_reducible exact ih0 _ _ _ _)
   | (with_reducible exact field_width.mono _ _)
   | (with_reducible exact LeO.refl _)
   | (with_reducible exact LeO.none _)
   | (with_reducible refine LeO.ite ?_ ?_)
   | (with_reducible refine LeO.bind ?_ (fun _ => ?_))
   | exact ih0 _ _ _ _
   | exact field_width.mono _ _
   | exact LeO.none _
   | refine LeO.ite ?_ ?_
   | refine LeO.bind ?_ (fun _ => ?_)
theorem field_fold.mono : ∀ a0 a1 a2 k,LeO (field_fold.f k a0 a1 a2) (field_fold.f (k + 1) a0 a1 a2) := by
 intro a0 a1 a2 k
 have ih0 := field_fold.mono_l k
 unfold field_fold.f
 repeat' first
   | (with_reducible exact ih0 _ _ _ _)
   | (with_reducible exact field_width.mono _ _)
   | (with_reducible exact LeO.refl _)
   | (with_reducible exact LeO.none _)
   | (with_reducible refine LeO.ite ?_ ?_)
   | (with_reducible refine LeO.bind ?_ (fun _ => ?_))
   | exact ih0 _ _ _ _
   | exact field_width.mono _ _
   | exact LeO.none _
   | refine LeO.ite ?_ ?_
   | refine LeO.bind ?_ (fun _ => ?_)
set_option maxHeartbeats 8000000 in
set_option maxRecDepth 100000 in
theorem field_fold.calls (k : Nat) (a0 : Int) (a1 : Int) (a2 : Int) (r : Int) (w : World) (h : field_fold.f k a0 a1 a2 = some r) :
  Calls Try.prog 51 #[.int .u64 a0,.int .u64 a1,.int .u64 a2] w fun e w' => e = .returned (.int .u64 r) ∧ Drawn0 w w' := by
 have H : ((field_width.f k a0).bind fun t102 => (field_fold.l0 k a0 a1 a2 t102)) = some r := h
 clear h
 replace H := Option.bind_eq_some_iff.mp H
 obtain ⟨t102,A40,H⟩ := H
 try dsimp only at H
 have A4 := am A40
 clear A40
 have H' := am H
 clear H
 go_enter Try.func51,Try.ntmps51
 go_wp2_with (first|((with_reducible refine gate_callee (f := 83) rfl ?_);refine goesL_ (some 12) rfl rfl Try.func83 (by kernel_rfl) rfl #[.int .u64 a0] rfl (by (try simp only [List.map_toArray,List.map_cons,List.map_nil]);first|done|rfl|(simp only [List.length_drop,List.length_take];rfl)) ?_;(with_reducible refine (field_width.calls k a0 t102 _ A4.out).mono ?_);rintro e w' ⟨rfl,⟨nd,rfl⟩⟩;refine ⟨_,rfl,?_⟩))
 go_loopg [1,2] k (fun kq v1 v2 w' => ∃ (x1_1 : Int) (x2_1 : Int),v1 = .int .u64 x1_1 ∧ v2 = .int .u64 x2_1 ∧ Aside0 (field_fold.l0 kq a0 x1_1 x2_1 t102 = some r) ∧ Aside0 (kq ≤ k) ∧ Drawn0 w w')
 case atStart => exact ⟨(a1),(a2),(by first|rfl|(simp;done)|(simp [*];done)),(by first|rfl|(simp;done)|(simp [*];done)),H',⟨Nat.le_refl _⟩,by repeat (first|exact Drawn0.refl _|apply Drawn0.step)⟩
 case round =>
  clear H'
  try clear p2
  obtain ⟨x1_1,x2_1,rfl,rfl,HA,HK1,⟨m1,rfl⟩⟩ := hrel
  cases gk with
  | zero => exact absurd HA.out (by simp [field_fold.l0])
  | succ k1 =>
   have H := HA.out
   clear HA
   simp only [field_fold.l0] at H
   by_cases c5 : x1_1 = 0
   ·rw [if_pos c5] at H
    have c5b0 : (x1_1 == 0) = true := beq_iff_eq.mpr c5
    have c5b1 : (x1_1 != 0) = false := bne_eq_false_iff_eq.mpr c5
    clear c5
    by_cases c6 : x2_1 > a0
    ·rw [if_pos c6] at H
     have c6b0 : decide (a0 < x2_1) = true := decide_eq_true c6
     clear c6
     by_cases c7 : 0 ≤ t102
     ·rw [if_pos c7] at H
      have c7b0 := eq_true c7
      have c7b1 : decide (0 ≤ t102) = true := decide_eq_true c7
      clear c7
      obtain ⟨ji8,hji8⟩ : ∃ j_ : Int,(shr .u64 x2_1 t102) = j_ := ⟨_,rfl⟩
      first|rw [hji8] at H|simp only [hji8] at H
      have hji8_ : (x2_1 / 2 ^ min t102.toNat 64) = ji8 := hji8
      have hji8z : t102 ≤ 64 → (x2_1 / 2 ^ t102.toNat) = ji8 := shr_small hji8
      obtain ⟨ji9,hji9⟩ : ∃ j_ : Int,(IntKind.u64.wrap (64 - t102)) = j_ := ⟨_,rfl⟩
      first|rw [hji9] at H|simp only [hji9] at H
      by_cases c10 : 0 ≤ (ji9)
      ·rw [if_pos c10] at H
       have c10b0 := eq_true c10
       have c10b1 : decide (0 ≤ (ji9)) = true := decide_eq_true c10
       clear c10
       obtain ⟨ji11,hji11⟩ : ∃ j_ : Int,(shl .u64 x1_1 (ji9)) = j_ := ⟨_,rfl⟩
       first|rw [hji11] at H|simp only [hji11] at H
       have hji11_ : (IntKind.u64.wrap (x1_1 * 2 ^ min (ji9).toNat 64)) = ji11 := hji11
       have hji11z : (ji9) ≤ 64 → (IntKind.u64.wrap (x1_1 * 2 ^ (ji9).toNat)) = ji11 := shl_small hji11
       have c12b0 := eq_true (od : 0 ≤ t102)
       obtain ⟨ji13,hji13⟩ : ∃ j_ : Int,(shr .u64 x1_1 t102) = j_ := ⟨_,rfl⟩
       first|rw [hji13] at H|simp only [hji13] at H
       have hji13_ : (x1_1 / 2 ^ min t102.toNat 64) = ji13 := hji13
       have hji13z : t102 ≤ 64 → (x1_1 / 2 ^ t102.toNat) = ji13 := shr_small hji13
       replace H := Option.bind_eq_some_iff.mp H
       obtain ⟨⟨t103,t104⟩,A140,H⟩ := H
       try dsimp only at H
       have A14 := am A140
       clear A140
       have H' := am H
       clear H
       go_wp2_with (first|((with_reducible refine gate_callee (f := 84) rfl ?_);refine goesX_ (some 37) rfl rfl #[.int .u64 (Go.bits .or .u64 (ji8) (ji11)),.int .u64 (Go.bits .and .u64 x2_1 a0),.int .u64 0] rfl (by (try simp only [List.map_toArray,List.map_cons,List.map_nil]);first|done|(simp only [hji11,hji8];rfl)|rfl|(simp only [List.length_drop,List.length_take];rfl)) _ (bits_Add64.runs (Go.bits .or .u64 (ji8) (ji11)) (Go.bits .and .u64 x2_1 a0) 0 t103 t104 _ A14.out) ?_))
       go_roundg k1
       case measure => have := HK1.out;omega
       case rel => exact ⟨(IntKind.u64.wrap ((ji13) + t104)),(t103),(by first|rfl|(simp;done)|(simp only [← hji13] <;> (first|rfl|simp))|(simp [*];done)),(by first|rfl|(simp;done)|(simp [*];done)),H',⟨by have := HK1.out;omega⟩,by repeat (first|exact Drawn0.refl _|apply Drawn0.step)⟩
      ·rw [if_neg c10] at H
       exact absurd H (by simp)
     ·rw [if_neg c7] at H
      exact absurd H (by simp)
    ·rw [if_neg c6] at H
     have c6b0 : decide (a0 < x2_1) = false := decide_eq_false c6
     clear c6
     by_cases c15 : x2_1 = a0
     ·rw [if_pos c15] at H
      have c15b0 : (x2_1 == a0) = true := beq_iff_eq.mpr c15
      have c15b1 : (x2_1 != a0) = false := bne_eq_false_iff_eq.mpr c15
      clear c15
      obtain rfl := Option.some.inj H
      go_wp2
      go_ret
      exact ⟨by first|rfl|(simp;done)|(simp [*];done),by repeat (first|exact Drawn0.refl _|apply Drawn0.step)⟩
     ·rw [if_neg c15] at H
      have c15b0 : (x2_1 == a0) = false := beq_eq_false_iff_ne.mpr c15
      have c15b1 : (x2_1 != a0) = true := bne_iff_ne.mpr c15
      obtain rfl := Option.some.inj H
      go_wp2
      go_ret
      exact ⟨by first|rfl|(simp;done)|(simp [*];done),by repeat (first|exact Drawn0.refl _|apply Drawn0.step)⟩
   ·rw [if_neg c5] at H
    have c5b0 : (x1_1 == 0) = false := beq_eq_false_iff_ne.mpr c5
    have c5b1 : (x1_1 != 0) = true := bne_iff_ne.mpr c5
    by_cases c16 : 0 ≤ t102
    ·rw [if_pos c16] at H
     have c16b0 := eq_true c16
     have c16b1 : decide (0 ≤ t102) = true := decide_eq_true c16
     clear c16
     obtain ⟨ji17,hji17⟩ : ∃ j_ : Int,(shr .u64 x2_1 t102) = j_ := ⟨_,rfl⟩
     first|rw [hji17] at H|simp only [hji17] at H
     have hji17_ : (x2_1 / 2 ^ min t102.toNat 64) = ji17 := hji17
     have hji17z : t102 ≤ 64 → (x2_1 / 2 ^ t102.toNat) = ji17 := shr_small hji17
     obtain ⟨ji18,hji18⟩ : ∃ j_ : Int,(IntKind.u64.wrap (64 - t102)) = j_ := ⟨_,rfl⟩
     first|rw [hji18] at H|simp only [hji18] at H
     by_cases c19 : 0 ≤ (ji18)
     ·rw [if_pos c19] at H
      have c19b0 := eq_true c19
      have c19b1 : decide (0 ≤ (ji18)) = true := decide_eq_true c19
      clear c19
      obtain ⟨ji20,hji20⟩ : ∃ j_ : Int,(shl .u64 x1_1 (ji18)) = j_ := ⟨_,rfl⟩
      first|rw [hji20] at H|simp only [hji20] at H
      have hji20_ : (IntKind.u64.wrap (x1_1 * 2 ^ min (ji18).toNat 64)) = ji20 := hji20
      have hji20z : (ji18) ≤ 64 → (IntKind.u64.wrap (x1_1 * 2 ^ (ji18).toNat)) = ji20 := shl_small hji20
      have c21b0 := eq_true (od : 0 ≤ t102)
      obtain ⟨ji22,hji22⟩ : ∃ j_ : Int,(shr .u64 x1_1 t102) = j_ := ⟨_,rfl⟩
      first|rw [hji22] at H|simp only [hji22] at H
      have hji22_ : (x1_1 / 2 ^ min t102.toNat 64) = ji22 := hji22
      have hji22z : t102 ≤ 64 → (x1_1 / 2 ^ t102.toNat) = ji22 := shr_small hji22
      replace H := Option.bind_eq_some_iff.mp H
      obtain ⟨⟨t105,t106⟩,A230,H⟩ := H
      try dsimp only at H
      have A23 := am A230
      clear A230
      have H' := am H
      clear H
      go_wp2_with (first|((with_reducible refine gate_callee (f := 84) rfl ?_);refine goesX_ (some 37) rfl rfl #[.int .u64 (Go.bits .or .u64 (ji17) (ji20)),.int .u64 (Go.bits .and .u64 x2_1 a0),.int .u64 0] rfl (by (try simp only [List.map_toArray,List.map_cons,List.map_nil]);first|done|(simp only [hji17,hji20];rfl)|rfl|(simp only [List.length_drop,List.length_take];rfl)) _ (bits_Add64.runs (Go.bits .or .u64 (ji17) (ji20)) (Go.bits .and .u64 x2_1 a0) 0 t105 t106 _ A23.out) ?_))
      go_roundg k1
      case measure => have := HK1.out;omega
      case rel => exact ⟨(IntKind.u64.wrap ((ji22) + t106)),(t105),(by first|rfl|(simp;done)|(simp only [← hji22] <;> (first|rfl|simp))|(simp [*];done)),(by first|rfl|(simp;done)|(simp [*];done)),H',⟨by have := HK1.out;omega⟩,by repeat (first|exact Drawn0.refl _|apply Drawn0.step)⟩
     ·rw [if_neg c19] at H
      exact absurd H (by simp)
    ·rw [if_neg c16] at H
     exact absurd H (by simp)
def field_Add.f (k : Nat) (a0 : Int) (a1 : Int) (a2 : Int) : Option (Int) := (field_fold.f k a0 0 (IntKind.u64.wrap (a1 + a2))).bind fun t107 => (some t107)
set_option maxHeartbeats 8000000 in
set_option maxRecDepth 100000 in
theorem field_Add.calls (k : Nat) (a0 : Int) (a1 : Int) (a2 : Int) (r : Int) (w : World) (h : field_Add.f k a0 a1 a2 = some r) :
  Calls Try.prog 26 #[.int .u64 a0,.int .u64 a1,.int .u64 a2] w fun e w' => e = .returned (.int .u64 r) ∧ Drawn0 w w' := by
 have H : ((field_fold.f k a0 0 (IntKind.u64.wrap (a1 + a2))).bind fun t107 => (some t107)) = some r := h
 clear h
 replace H := Option.bind_eq_some_iff.mp H
 obtain ⟨t107,A40,H⟩ := H
 try dsimp only at H
 have A4 := am A40
 clear A40
 obtain rfl := Option.some.inj H
 go_enter Try.func26,Try.ntmps26
 go_wp2_with (first|((with_reducible refine gate_callee (f := 51) rfl ?_);refine goesL_ (some 11) rfl rfl Try.func51 (by kernel_rfl) rfl #[.int .u64 a0,.int .u64 0,.int .u64 (IntKind.u64.wrap (a1 + a2))] rfl (by (try simp only [List.map_toArray,List.map_cons,List.map_nil]);first|done|rfl|(simp only [List.length_drop,List.length_take];rfl)) ?_;(with_reducible refine (field_fold.calls k a0 0 (IntKind.u64.wrap (a1 + a2)) t107 _ A4.out).mono ?_);rintro e w' ⟨rfl,⟨nd,rfl⟩⟩;refine ⟨_,rfl,?_⟩))
 go_ret
 exact ⟨by first|rfl|(simp;done)|(simp [*];done),by repeat (first|exact Drawn0.refl _|apply Drawn0.step)⟩
def field_Neg.f (a0 : Int) (a1 : Int) : Option (Int) := if a1 = 0 then (some 0) else (some (IntKind.u64.wrap (a0 - a1)))
set_option maxHeartbeats 8000000 in
set_option maxRecDepth 100000 in
theorem field_Neg.calls (a0 : Int) (a1 : Int) (r : Int) (w : World) (h : field_Neg.f a0 a1 = some r) :
  Calls Try.prog 68 #[.int .u64 a0,.int .u64 a1] w fun e w' => e = .returned (.int .u64 r) ∧ Drawn0 w w' := by
 have H : (if a1 = 0 then (some 0) else (some (IntKind.u64.wrap (a0 - a1)))) = some r := h
 clear h
 by_cases c3 : a1 = 0
 ·rw [if_pos c3] at H
  have c3b0 : (a1 == 0) = true := beq_iff_eq.mpr c3
  have c3b1 : (a1 != 0) = false := bne_eq_false_iff_eq.mpr c3
  clear c3
  obtain rfl := Option.some.inj H
  go_enter Try.func68,Try.ntmps68
  go_wp2
  go_ret
  exact ⟨by first|rfl|(simp;done)|(simp [*];done),by repeat (first|exact Drawn0.refl _|apply Drawn0.step)⟩
 ·rw [if_neg c3] at H
  have c3b0 : (a1 == 0) = false := beq_eq_false_iff_ne.mpr c3
  have c3b1 : (a1 != 0) = true := bne_iff_ne.mpr c3
  obtain rfl := Option.some.inj H
  go_enter Try.func68,Try.ntmps68
  go_wp2
  go_ret
  exact ⟨by first|rfl|(simp;done)|(simp [*];done),by repeat (first|exact Drawn0.refl _|apply Drawn0.step)⟩
def field_Sub.f (k : Nat) (a0 : Int) (a1 : Int) (a2 : Int) : Option (Int) := (field_Neg.f a0 a2).bind fun t108 => ((field_Add.f k a0 a1 t108).bind fun t109 => (some t109))
set_option maxHeartbeats 8000000 in
set_option maxRecDepth 100000 in
theorem field_Sub.calls (k : Nat) (a0 : Int) (a1 : Int) (a2 : Int) (r : Int) (w : World) (h : field_Sub.f k a0 a1 a2 = some r) :
  Calls Try.prog 44 #[.int .u64 a0,.int .u64 a1,.int .u64 a2] w fun e w' => e = .returned (.int .u64 r) ∧ Drawn0 w w' := by
 have H : ((field_Neg.f a0 a2).bind fun t108 => ((field_Add.f k a0 a1 t108).bind fun t109 => (some t109))) = some r := h
 clear h
 replace H := Option.bind_eq_some_iff.mp H
 obtain ⟨t108,A40,H⟩ := H
 try dsimp only at H
 have A4 := am A40
 clear A40
 replace H := Option.bind_eq_some_iff.mp H
 obtain ⟨t109,A50,H⟩ := H
 try dsimp only at H
 have A5 := am A50
 clear A50
 obtain rfl := Option.some.inj H
 go_enter Try.func44,Try.ntmps44
 go_wp2_with (first|((with_reducible refine gate_callee (f := 68) rfl ?_);refine goesL_ (some 11) rfl rfl Try.func68 (by kernel_rfl) rfl #[.int .u64 a0,.int .u64 a2] rfl (by (try simp only [List.map_toArray,List.map_cons,List.map_nil]);first|done|rfl|(simp only [List.length_drop,List.length_take];rfl)) ?_;(with_reducible refine (field_Neg.calls a0 a2 t108 _ A4.out).mono ?_);rintro e w' ⟨rfl,⟨nd,rfl⟩⟩;refine ⟨_,rfl,?_⟩)|((with_reducible refine gate_callee (f := 26) rfl ?_);refine goesL_ (some 12) rfl rfl Try.func26 (by kernel_rfl) rfl #[.int .u64 a0,.int .u64 a1,.int .u64 t108] rfl (by (try simp only [List.map_toArray,List.map_cons,List.map_nil]);first|done|rfl|(simp only [List.length_drop,List.length_take];rfl)) ?_;(with_reducible refine (field_Add.calls k a0 a1 t108 t109 _ A5.out).mono ?_);rintro e w' ⟨rfl,⟨nd,rfl⟩⟩;refine ⟨_,rfl,?_⟩))
 go_ret
 exact ⟨by first|rfl|(simp;done)|(simp [*];done),by repeat (first|exact Drawn0.refl _|apply Drawn0.step)⟩
def bits_Mul64.f (a0 : Int) (a1 : Int) : Option (Int × Int) := some (IntKind.u64.wrap ((IntKind.u64.wrap ((IntKind.u64.wrap ((a0 / 4294967296) * (a1 / 4294967296))) + ((IntKind.u64.wrap ((IntKind.u64.wrap ((a0 / 4294967296) * (Go.bits .and .u64 a1 4294967295))) + ((IntKind.u64.wrap ((Go.bits .and .u64 a0 4294967295) * (Go.bits .and .u64 a1 4294967295))) / 4294967296))) / 4294967296))) + ((IntKind.u64.wrap ((Go.bits .and .u64 (IntKind.u64.wrap ((IntKind.u64.wrap ((a0 / 4294967296) * (Go.bits .and .u64 a1 4294967295))) + ((IntKind.u64.wrap ((Go.bits .and .u64 a0 4294967295) * (Go.bits .and .u64 a1 4294967295))) / 4294967296))) 4294967295) + (IntKind.u64.wrap ((Go.bits .and .u64 a0 4294967295) * (a1 / 4294967296))))) / 4294967296)),IntKind.u64.wrap (a0 * a1))
set_option maxHeartbeats 8000000 in
set_option maxRecDepth 100000 in
theorem bits_Mul64.calls (a0 : Int) (a1 : Int) (r1 : Int) (r2 : Int) (w : World) (h : bits_Mul64.f a0 a1 = some (r1,r2)) :
  Calls Try.prog 52 #[.int .u64 a0,.int .u64 a1] w fun e w' => e = .returned (.tuple #[.int .u64 r1,.int .u64 r2]) ∧ Drawn0 w w' := by
 have H : (some (IntKind.u64.wrap ((IntKind.u64.wrap ((IntKind.u64.wrap ((a0 / 4294967296) * (a1 / 4294967296))) + ((IntKind.u64.wrap ((IntKind.u64.wrap ((a0 / 4294967296) * (Go.bits .and .u64 a1 4294967295))) + ((IntKind.u64.wrap ((Go.bits .and .u64 a0 4294967295) * (Go.bits .and .u64 a1 4294967295))) / 4294967296))) / 4294967296))) + ((IntKind.u64.wrap ((Go.bits .and .u64 (IntKind.u64.wrap ((IntKind.u64.wrap ((a0 / 4294967296) * (Go.bits .and .u64 a1 4294967295))) + ((IntKind.u64.wrap ((Go.bits .and .u64 a0 4294967295) * (Go.bits .and .u64 a1 4294967295))) / 4294967296))) 4294967295) + (IntKind.u64.wrap ((Go.bits .and .u64 a0 4294967295) * (a1 / 4294967296))))) / 4294967296)),IntKind.u64.wrap (a0 * a1))) = some (r1,r2) := h
 clear h
 simp only [Option.some.injEq,Prod.mk.injEq] at H
 obtain ⟨rfl,rfl⟩ := H
 go_enter Try.func52,Try.ntmps52
 go_wp2
 go_ret2
 exact ⟨by first|rfl|(simp;done)|(simp [*];done),by repeat (first|exact Drawn0.refl _|apply Drawn0.step)⟩
def field_Mul.f (k : Nat) (a0 : Int) (a1 : Int) (a2 : Int) : Option (Int) := (bits_Mul64.f a1 a2).bind fun bt110 => ((field_fold.f k a0 bt110.1 bt110.2).bind fun t112 => (some t112))
theorem field_Mul.mono : ∀ a0 a1 a2 k,LeO (field_Mul.f k a0 a1 a2) (field_Mul.f (k + 1) a0 a1 a2) := by
 intro a0 a1 a2 k
 unfold field_Mul.f
 repeat' first
   | (with_reducible exact field_fold.mono _ _ _ _)
   | (with_reducible exact LeO.refl _)
   | (with_reducible exact LeO.none _)
   | (with_reducible refine LeO.ite ?_ ?_)
   | (with_reducible refine LeO.bind ?_ (fun _ => ?_))
   | exact field_fold.mono _ _ _ _
   | exact LeO.none _
   | refine LeO.ite ?_ ?_
   | refine LeO.bind ?_ (fun _ => ?_)
set_option maxHeartbeats 8000000 in
set_option maxRecDepth 100000 in
theorem field_Mul.calls (k : Nat) (a0 : Int) (a1 : Int) (a2 : Int) (r : Int) (w : World) (h : field_Mul.f k a0 a1 a2 = some r) :
  Calls Try.prog 27 #[.int .u64 a0,.int .u64 a1,.int .u64 a2] w fun e w' => e = .returned (.int .u64 r) ∧ Drawn0 w w' := by
 have H : ((bits_Mul64.f a1 a2).bind fun bt110 => ((field_fold.f k a0 bt110.1 bt110.2).bind fun t112 => (some t112))) = some r := h
 clear h
 replace H := Option.bind_eq_some_iff.mp H
 obtain ⟨⟨t110,t111⟩,A40,H⟩ := H
 try dsimp only at H
 have A4 := am A40
 clear A40
 replace H := Option.bind_eq_some_iff.mp H
 obtain ⟨t112,A50,H⟩ := H
 try dsimp only at H
 have A5 := am A50
 clear A50
 obtain rfl := Option.some.inj H
 go_enter Try.func27,Try.ntmps27
 go_wp2_with (first|((with_reducible refine gate_callee (f := 52) rfl ?_);refine goesL_ (some 12) rfl rfl Try.func52 (by kernel_rfl) rfl #[.int .u64 a1,.int .u64 a2] rfl (by (try simp only [List.map_toArray,List.map_cons,List.map_nil]);first|done|rfl|(simp only [List.length_drop,List.length_take];rfl)) ?_;(with_reducible refine (bits_Mul64.calls a1 a2 t110 t111 _ A4.out).mono ?_);rintro e w' ⟨rfl,⟨nd,rfl⟩⟩;refine ⟨_,rfl,?_⟩)|((with_reducible refine gate_callee (f := 51) rfl ?_);refine goesL_ (some 18) rfl rfl Try.func51 (by kernel_rfl) rfl #[.int .u64 a0,.int .u64 t110,.int .u64 t111] rfl (by (try simp only [List.map_toArray,List.map_cons,List.map_nil]);first|done|rfl|(simp only [List.length_drop,List.length_take];rfl)) ?_;(with_reducible refine (field_fold.calls k a0 t110 t111 t112 _ A5.out).mono ?_);rintro e w' ⟨rfl,⟨nd,rfl⟩⟩;refine ⟨_,rfl,?_⟩))
 go_ret
 exact ⟨by first|rfl|(simp;done)|(simp [*];done),by repeat (first|exact Drawn0.refl _|apply Drawn0.step)⟩
def field_Pow.l0 : Nat → Int → Int → Int → Int → Option (Int)
 | 0,_,_,_,_ => none
 | k + 1,x0,x1,x2,x7 => if x2 > 0 then (if (Go.bits .and .u64 x2 1) = 1 then ((field_Mul.f k x0 x7 x1).bind fun t113 => ((field_Mul.f k x0 x1 x1).bind fun t114 => (field_Pow.l0 k x0 t114 (x2 / 2) t113))) else ((field_Mul.f k x0 x1 x1).bind fun t115 => (field_Pow.l0 k x0 t115 (x2 / 2) x7))) else (some x7)
def field_Pow.f (k : Nat) (a0 : Int) (a1 : Int) (a2 : Int) : Option (Int) := field_Pow.l0 k a0 a1 a2 1
theorem field_Pow.mono_l : ∀ k,(∀ y0 y1 y2 y3,LeO (field_Pow.l0 k y0 y1 y2 y3) (field_Pow.l0 (k + 1) y0 y1 y2 y3))
 | 0 => fun _ _ _ _ r h => by simp [field_Pow.l0] at h
 | k + 1 => by
  have ih0 := field_Pow.mono_l k
  ·intro y0 y1 y2 y3
   unfold field_Pow.l0
   repeat' first
   | (with_reducible exact ih0 _ _ _ _)
   | (with_reducible exact field_Mul.mono _ _ _ _)
   | (with_reducible exact LeO.refl _)
   | (with_reducible exact LeO.none _)
   | (with_reducible refine LeO.ite ?_ ?_)
   | (with_reducible refine LeO.bind ?_ (fun _ => ?_))
   | exact ih0 _ _ _ _
   | exact field_Mul.mono _ _ _ _
   | exact LeO.none _
   | refine LeO.ite ?_ ?_
   | refine LeO.bind ?_ (fun _ => ?_)
set_option maxHeartbeats 8000000 in
set_option maxRecDepth 100000 in
theorem field_Pow.calls (k : Nat) (a0 : Int) (a1 : Int) (a2 : Int) (r : Int) (w : World) (h : field_Pow.f k a0 a1 a2 = some r) :
  Calls Try.prog 100 #[.int .u64 a0,.int .u64 a1,.int .u64 a2] w fun e w' => e = .returned (.int .u64 r) ∧ Drawn0 w w' := by
 have H : (field_Pow.l0 k a0 a1 a2 1) = some r := h
 clear h
 have H' := am H
 clear H
 go_enter Try.func100,Try.ntmps100
 go_wp2
 go_loopg [1,2,7] k (fun kq v1 v2 v7 w' => ∃ (x1_1 : Int) (x2_1 : Int) (x7_1 : Int),v1 = .int .u64 x1_1 ∧ v2 = .int .u64 x2_1 ∧ v7 = .int .u64 x7_1 ∧ Aside0 (field_Pow.l0 kq a0 x1_1 x2_1 x7_1 = some r) ∧ Aside0 (kq ≤ k) ∧ Drawn0 w w')
 case atStart => exact ⟨(a1),(a2),(1),(by first|rfl|(simp;done)|(simp [*];done)),(by first|rfl|(simp;done)|(simp [*];done)),(by first|rfl|(simp;done)|(simp [*];done)),H',⟨Nat.le_refl _⟩,by repeat (first|exact Drawn0.refl _|apply Drawn0.step)⟩
 case round =>
  clear H'
  try clear c1
  try clear p2
  obtain ⟨x1_1,x2_1,x7_1,rfl,rfl,rfl,HA,HK1,⟨m1,rfl⟩⟩ := hrel
  cases gk with
  | zero => exact absurd HA.out (by simp [field_Pow.l0])
  | succ k1 =>
   have H := HA.out
   clear HA
   simp only [field_Pow.l0] at H
   by_cases c4 : x2_1 > 0
   ·rw [if_pos c4] at H
    have c4b0 : decide (0 < x2_1) = true := decide_eq_true c4
    clear c4
    by_cases c5 : (Go.bits .and .u64 x2_1 1) = 1
    ·rw [if_pos c5] at H
     have c5b0 : ((Go.bits .and .u64 x2_1 1) == 1) = true := beq_iff_eq.mpr c5
     have c5b1 : ((Go.bits .and .u64 x2_1 1) != 1) = false := bne_eq_false_iff_eq.mpr c5
     clear c5
     replace H := Option.bind_eq_some_iff.mp H
     obtain ⟨t113,A60,H⟩ := H
     try dsimp only at H
     have A6 := am A60
     clear A60
     replace H := Option.bind_eq_some_iff.mp H
     obtain ⟨t114,A70,H⟩ := H
     try dsimp only at H
     have A7 := am A70
     clear A70
     have H' := am H
     clear H
     go_wp2_with (first|((with_reducible refine gate_callee (f := 27) rfl ?_);refine goesL_ (some 18) rfl rfl Try.func27 (by kernel_rfl) rfl #[.int .u64 a0,.int .u64 x7_1,.int .u64 x1_1] rfl (by (try simp only [List.map_toArray,List.map_cons,List.map_nil]);first|done|rfl|(simp only [List.length_drop,List.length_take];rfl)) ?_;(with_reducible refine (field_Mul.calls k1 a0 x7_1 x1_1 t113 _ A6.out).mono ?_);rintro e w' ⟨rfl,⟨nd,rfl⟩⟩;refine ⟨_,rfl,?_⟩)|((with_reducible refine gate_callee (f := 27) rfl ?_);refine goesL_ (some 22) rfl rfl Try.func27 (by kernel_rfl) rfl #[.int .u64 a0,.int .u64 x1_1,.int .u64 x1_1] rfl (by (try simp only [List.map_toArray,List.map_cons,List.map_nil]);first|done|rfl|(simp only [List.length_drop,List.length_take];rfl)) ?_;(with_reducible refine (field_Mul.calls k1 a0 x1_1 x1_1 t114 _ A7.out).mono ?_);rintro e w' ⟨rfl,⟨nd,rfl⟩⟩;refine ⟨_,rfl,?_⟩))
     go_roundg k1
     case measure => have := HK1.out;omega
     case rel => exact ⟨(t114),(x2_1 / 2),(t113),(by first|rfl|(simp;done)|(simp [*];done)),(by first|rfl|(simp;done)|(simp [*];done)),(by first|rfl|(simp;done)|(simp [*];done)),H',⟨by have := HK1.out;omega⟩,by repeat (first|exact Drawn0.refl _|apply Drawn0.step)⟩
    ·rw [if_neg c5] at H
     have c5b0 : ((Go.bits .and .u64 x2_1 1) == 1) = false := beq_eq_false_iff_ne.mpr c5
     have c5b1 : ((Go.bits .and .u64 x2_1 1) != 1) = true := bne_iff_ne.mpr c5
     replace H := Option.bind_eq_some_iff.mp H
     obtain ⟨t115,A80,H⟩ := H
     try dsimp only at H
     have A8 := am A80
     clear A80
     have H' := am H
     clear H
     go_wp2_with (first|((with_reducible refine gate_callee (f := 27) rfl ?_);refine goesL_ (some 22) rfl rfl Try.func27 (by kernel_rfl) rfl #[.int .u64 a0,.int .u64 x1_1,.int .u64 x1_1] rfl (by (try simp only [List.map_toArray,List.map_cons,List.map_nil]);first|done|rfl|(simp only [List.length_drop,List.length_take];rfl)) ?_;(with_reducible refine (field_Mul.calls k1 a0 x1_1 x1_1 t115 _ A8.out).mono ?_);rintro e w' ⟨rfl,⟨nd,rfl⟩⟩;refine ⟨_,rfl,?_⟩))
     go_roundg k1
     case measure => have := HK1.out;omega
     case rel => exact ⟨(t115),(x2_1 / 2),(x7_1),(by first|rfl|(simp;done)|(simp [*];done)),(by first|rfl|(simp;done)|(simp [*];done)),(by first|rfl|(simp;done)|(simp [*];done)),H',⟨by have := HK1.out;omega⟩,by repeat (first|exact Drawn0.refl _|apply Drawn0.step)⟩
   ·rw [if_neg c4] at H
    have c4b0 : decide (0 < x2_1) = false := decide_eq_false c4
    clear c4
    obtain rfl := Option.some.inj H
    go_wp2
    go_ret
    exact ⟨by first|rfl|(simp;done)|(simp [*];done),by repeat (first|exact Drawn0.refl _|apply Drawn0.step)⟩
mutual
def privityref05_Unlike.l0 : Nat → List Int → Int → Option (Bool)
 | 0,_,_ => none
 | k + 1,x0,x3 => if x3 < (x0.length : Int) then (privityref05_Unlike.l1 k x0 x3 0) else (some true)
def privityref05_Unlike.l1 : Nat → List Int → Int → Int → Option (Bool)
 | 0,_,_,_ => none
 | k + 1,x0,x3,x4 => if x4 < x3 then (if 0 ≤ x3 then (if x3 < (x0.length : Int) then (if 0 ≤ x4 then (if x4 < (x0.length : Int) then (if (rd x0 x3) = (rd x0 x4) then (some false) else (privityref05_Unlike.l1 k x0 x3 (wrap64 (x4 + 1)))) else (none)) else (none)) else (none)) else (none)) else (privityref05_Unlike.l0 k x0 (wrap64 (x3 + 1)))
end
def privityref05_Unlike.f (k : Nat) (l0 : List Int) : Option (Bool) := privityref05_Unlike.l0 k l0 0
set_option maxHeartbeats 8000000 in
set_option maxRecDepth 100000 in
theorem privityref05_Unlike.calls (k : Nat) (A0 : Option Addr) (c0 : Nat) (l0 : List Int) (r : Bool) (w : World) (hr0 : Kd.C (Kd.int .u64) w A0 l0.length l0) (hc0 : l0.length ≤ c0) (h : privityref05_Unlike.f k l0 = some r) :
  Calls Try.prog 63 #[.slice A0 l0.length c0] w fun e w' => e = .returned (.bool r) ∧ Drawn0 w w' := by
 have HR0 := am hr0
 have HC0 := am hc0
 clear hr0 hc0
 have H : (privityref05_Unlike.l0 k l0 0) = some r := h
 clear h
 have H' := am H
 clear H
 go_enter Try.func63,Try.ntmps63
 go_wp2
 repeat (go_quiet (fail);try go_wp2)
 go_loopg [3] k (fun kq v3 w' => ∃ (x3_1 : Int),v3 = .int .i64 x3_1 ∧ Aside0 (privityref05_Unlike.l0 kq l0 x3_1 = some r) ∧ Aside0 (kq ≤ k) ∧ Drawn0 w w')
 case atStart => exact ⟨(0),(by first|rfl|(simp;done)|(simp [*];done)),H',⟨Nat.le_refl _⟩,by repeat (first|exact Drawn0.refl _|apply Drawn0.step)⟩
 case round =>
  clear H'
  obtain ⟨x3_1,rfl,HA,HK1,⟨m1,rfl⟩⟩ := hrel
  cases gk with
  | zero => exact absurd HA.out (by simp [privityref05_Unlike.l0])
  | succ k1 =>
   have H := HA.out
   clear HA
   simp only [privityref05_Unlike.l0] at H
   by_cases c2 : x3_1 < (l0.length : Int)
   ·rw [if_pos c2] at H
    have c2b0 : decide (x3_1 < (l0.length : Int)) = true := decide_eq_true c2
    clear c2
    have H' := am H
    clear H
    go_wp2
    repeat (go_quiet (fail);try go_wp2)
    go_loopg [4] k1 (fun kq v4 w' => ∃ (x4_2 : Int),v4 = .int .i64 x4_2 ∧ Aside0 (privityref05_Unlike.l1 kq l0 x3_1 x4_2 = some r) ∧ Aside0 (kq ≤ k1) ∧ Drawn0 w w')
    case atStart => exact ⟨(0),(by first|rfl|(simp;done)|(simp [*];done)),H',⟨Nat.le_refl _⟩,by repeat (first|exact Drawn0.refl _|apply Drawn0.step)⟩
    case round =>
     clear H'
     try clear c2
     try clear c2b0
     try clear p2
     obtain ⟨x4_2,rfl,HA,HK2,⟨m2,rfl⟩⟩ := hrel
     cases gk with
     | zero => exact absurd HA.out (by simp [privityref05_Unlike.l1])
     | succ k2 =>
      have H := HA.out
      clear HA
      simp only [privityref05_Unlike.l1] at H
      by_cases c3 : x4_2 < x3_1
      ·rw [if_pos c3] at H
       have c3b0 : decide (x4_2 < x3_1) = true := decide_eq_true c3
       clear c3
       by_cases c4 : 0 ≤ x3_1
       ·rw [if_pos c4] at H
        have c4b0 : decide (0 ≤ x3_1) = true := decide_eq_true c4
        clear c4
        by_cases c5 : x3_1 < (l0.length : Int)
        ·rw [if_pos c5] at H
         have c5b0 : decide (x3_1 < (l0.length : Int)) = true := decide_eq_true c5
         clear c5
         by_cases c6 : 0 ≤ x4_2
         ·rw [if_pos c6] at H
          have c6b0 : decide (0 ≤ x4_2) = true := decide_eq_true c6
          clear c6
          by_cases c7 : x4_2 < (l0.length : Int)
          ·rw [if_pos c7] at H
           have c7b0 : decide (x4_2 < (l0.length : Int)) = true := decide_eq_true c7
           clear c7
           by_cases c8 : (rd l0 x3_1) = (rd l0 x4_2)
           ·rw [if_pos c8] at H
            have c8b0 : ((rd l0 x3_1) == (rd l0 x4_2)) = true := beq_iff_eq.mpr c8
            have c8b1 : ((rd l0 x3_1) != (rd l0 x4_2)) = false := bne_eq_false_iff_eq.mpr c8
            clear c8
            obtain rfl := Option.some.inj H
            have p138 : 0 ≤ (x3_1 : Int) := od
            have q138 : x3_1 < (l0.length : Int) := od
            obtain ⟨ad138,e138,hx138_0⟩ := Kd.at_int HR0.out x3_1 p138 q138
            cases e138
            replace p138 := eq_true p138
            replace q138 := eq_true q138
            have p139 : 0 ≤ (x4_2 : Int) := od
            have q139 : x4_2 < (l0.length : Int) := od
            obtain ⟨ad139,e139,hx139_0⟩ := Kd.at_int HR0.out x4_2 p139 q139
            obtain rfl : ad138 = ad139 := (by injection e139)
            replace p139 := eq_true p139
            replace q139 := eq_true q139
            go_wp2
            repeat (go_quiet (fail);try go_wp2)
            go_ret
            exact ⟨by first|rfl|(simp;done)|(simp [*];done),by repeat (first|exact Drawn0.refl _|apply Drawn0.step)⟩
           ·rw [if_neg c8] at H
            have c8b0 : ((rd l0 x3_1) == (rd l0 x4_2)) = false := beq_eq_false_iff_ne.mpr c8
            have c8b1 : ((rd l0 x3_1) != (rd l0 x4_2)) = true := bne_iff_ne.mpr c8
            have H' := am H
            clear H
            have p138 : 0 ≤ (x3_1 : Int) := od
            have q138 : x3_1 < (l0.length : Int) := od
            obtain ⟨ad138,e138,hx138_0⟩ := Kd.at_int HR0.out x3_1 p138 q138
            cases e138
            replace p138 := eq_true p138
            replace q138 := eq_true q138
            have p139 : 0 ≤ (x4_2 : Int) := od
            have q139 : x4_2 < (l0.length : Int) := od
            obtain ⟨ad139,e139,hx139_0⟩ := Kd.at_int HR0.out x4_2 p139 q139
            obtain rfl : ad138 = ad139 := (by injection e139)
            replace p139 := eq_true p139
            replace q139 := eq_true q139
            go_wp2
            repeat (go_quiet (fail);try go_wp2)
            go_roundg k2
            case measure => have := HK1.out;have := HK2.out;omega
            case rel => exact ⟨(wrap64 (x4_2 + 1)),(by first|rfl|(simp;done)|(simp [*];done)),H',⟨by have := HK1.out;have := HK2.out;omega⟩,by repeat (first|exact Drawn0.refl _|apply Drawn0.step)⟩
          ·rw [if_neg c7] at H
           exact absurd H (by simp)
         ·rw [if_neg c6] at H
          exact absurd H (by simp)
        ·rw [if_neg c5] at H
         exact absurd H (by simp)
       ·rw [if_neg c4] at H
        exact absurd H (by simp)
      ·rw [if_neg c3] at H
       have c3b0 : decide (x4_2 < x3_1) = false := decide_eq_false c3
       clear c3
       have H' := am H
       clear H
       go_wp2
       repeat (go_quiet (fail);try go_wp2)
       go_roundg k2
       case measure => have := HK1.out;have := HK2.out;omega
       case rel => exact ⟨(wrap64 (x3_1 + 1)),(by first|rfl|(simp;done)|(simp [*];done)),H',⟨by have := HK1.out;have := HK2.out;omega⟩,by repeat (first|exact Drawn0.refl _|apply Drawn0.step)⟩
   ·rw [if_neg c2] at H
    have c2b0 : decide (x3_1 < (l0.length : Int)) = false := decide_eq_false c2
    clear c2
    obtain rfl := Option.some.inj H
    go_wp2
    repeat (go_quiet (fail);try go_wp2)
    go_ret
    exact ⟨by first|rfl|(simp;done)|(simp [*];done),by repeat (first|exact Drawn0.refl _|apply Drawn0.step)⟩
def privityref01_Sub.f (a0 : Int) (a1 : Int) (a2 : Int) : Option (Int) := if a0 = 0 then (none) else (some (Int.tmod (IntKind.u64.wrap ((IntKind.u64.wrap (a1 + a0)) - a2)) a0))
set_option maxHeartbeats 8000000 in
set_option maxRecDepth 100000 in
theorem privityref01_Sub.calls (a0 : Int) (a1 : Int) (a2 : Int) (r : Int) (w : World) (h : privityref01_Sub.f a0 a1 a2 = some r) :
  Calls Try.prog 48 #[.int .u64 a0,.int .u64 a1,.int .u64 a2] w fun e w' => e = .returned (.int .u64 r) ∧ Drawn0 w w' := by
 have H : (if a0 = 0 then (none) else (some (Int.tmod (IntKind.u64.wrap ((IntKind.u64.wrap (a1 + a0)) - a2)) a0))) = some r := h
 clear h
 by_cases c4 : a0 = 0
 ·rw [if_pos c4] at H
  exact absurd H (by simp)
 ·rw [if_neg c4] at H
  have c4b0 : (a0 == 0) = false := beq_eq_false_iff_ne.mpr c4
  have c4b1 : (a0 != 0) = true := bne_iff_ne.mpr c4
  obtain rfl := Option.some.inj H
  go_enter Try.func48,Try.ntmps48
  go_wp2
  go_ret
  exact ⟨by first|rfl|(simp;done)|(simp [*];done),by repeat (first|exact Drawn0.refl _|apply Drawn0.step)⟩
def privityref01_Mul.l0 : Nat → Int → Int → Int → Int → Option (Int)
 | 0,_,_,_,_ => none
 | k + 1,x0,x1,x2,x7 => if x2 > 0 then (if (Int.tmod x2 2) = 1 then (if x0 = 0 then (none) else (privityref01_Mul.l0 k x0 (Int.tmod (IntKind.u64.wrap (x1 + x1)) x0) (IntKind.u64.wrap (Int.tdiv x2 2)) (Int.tmod (IntKind.u64.wrap (x7 + x1)) x0))) else (if x0 = 0 then (none) else (privityref01_Mul.l0 k x0 (Int.tmod (IntKind.u64.wrap (x1 + x1)) x0) (IntKind.u64.wrap (Int.tdiv x2 2)) x7))) else (some x7)
def privityref01_Mul.f (k : Nat) (a0 : Int) (a1 : Int) (a2 : Int) : Option (Int) := privityref01_Mul.l0 k a0 a1 a2 0
theorem privityref01_Mul.mono_l : ∀ k,(∀ y0 y1 y2 y3,LeO (privityref01_Mul.l0 k y0 y1 y2 y3) (privityref01_Mul.l0 (k + 1) y0 y1 y2 y3))
 | 0 => fun _ _ _ _ r h => by simp [privityref01_Mul.l0] at h
 | k + 1 => by
  have ih0 := privityref01_Mul.mono_l k
  ·intro y0 y1 y2 y3
   unfold privityref01_Mul.l0
   repeat' first
   | (with_reducible exact ih0 _ _ _ _)
   | (with_reducible exact LeO.refl _)
   | (with_reducible exact LeO.none _)
   | (with_reducible refine LeO.ite ?_ ?_)
   | (with_reducible refine LeO.bind ?_ (fun _ => ?_))
   | exact ih0 _ _ _ _
   | exact LeO.none _
   | refine LeO.ite ?_ ?_
   | refine LeO.bind ?_ (fun _ => ?_)
theorem privityref01_Mul.mono : ∀ a0 a1 a2 k,LeO (privityref01_Mul.f k a0 a1 a2) (privityref01_Mul.f (k + 1) a0 a1 a2) := by
 intro a0 a1 a2 k
 have ih0 := privityref01_Mul.mono_l k
 unfold privityref01_Mul.f
 repeat' first
   | (with_reducible exact ih0 _ _ _ _)
   | (with_reducible exact LeO.refl _)
   | (with_reducible exact LeO.none _)
   | (with_reducible refine LeO.ite ?_ ?_)
   | (with_reducible refine LeO.bind ?_ (fun _ => ?_))
   | exact ih0 _ _ _ _
   | exact LeO.none _
   | refine LeO.ite ?_ ?_
   | refine LeO.bind ?_ (fun _ => ?_)
set_option maxHeartbeats 8000000 in
set_option maxRecDepth 100000 in
theorem privityref01_Mul.calls (k : Nat) (a0 : Int) (a1 : Int) (a2 : Int) (r : Int) (w : World) (h : privityref01_Mul.f k a0 a1 a2 = some r) :
  Calls Try.prog 78 #[.int .u64 a0,.int .u64 a1,.int .u64 a2] w fun e w' => e = .returned (.int .u64 r) ∧ Drawn0 w w' := by
 have H : (privityref01_Mul.l0 k a0 a1 a2 0) = some r := h
 clear h
 have H' := am H
 clear H
 go_enter Try.func78,Try.ntmps78
 go_wp2
 go_loopg [1,2,7] k (fun kq v1 v2 v7 w' => ∃ (x1_1 : Int) (x2_1 : Int) (x7_1 : Int),v1 = .int .u64 x1_1 ∧ v2 = .int .u64 x2_1 ∧ v7 = .int .u64 x7_1 ∧ Aside0 (privityref01_Mul.l0 kq a0 x1_1 x2_1 x7_1 = some r) ∧ Aside0 (kq ≤ k) ∧ Drawn0 w w')
 case atStart => exact ⟨(a1),(a2),(0),(by first|rfl|(simp;done)|(simp [*];done)),(by first|rfl|(simp;done)|(simp [*];done)),(by first|rfl|(simp;done)|(simp [*];done)),H',⟨Nat.le_refl _⟩,by repeat (first|exact Drawn0.refl _|apply Drawn0.step)⟩
 case round =>
  clear H'
  try clear p2
  obtain ⟨x1_1,x2_1,x7_1,rfl,rfl,rfl,HA,HK1,⟨m1,rfl⟩⟩ := hrel
  cases gk with
  | zero => exact absurd HA.out (by simp [privityref01_Mul.l0])
  | succ k1 =>
   have H := HA.out
   clear HA
   simp only [privityref01_Mul.l0] at H
   by_cases c4 : x2_1 > 0
   ·rw [if_pos c4] at H
    have c4b0 : decide (0 < x2_1) = true := decide_eq_true c4
    clear c4
    by_cases c5 : (Int.tmod x2_1 2) = 1
    ·rw [if_pos c5] at H
     have c5b0 : ((Int.tmod x2_1 2) == 1) = true := beq_iff_eq.mpr c5
     have c5b1 : ((Int.tmod x2_1 2) != 1) = false := bne_eq_false_iff_eq.mpr c5
     clear c5
     by_cases c6 : a0 = 0
     ·rw [if_pos c6] at H
      exact absurd H (by simp)
     ·rw [if_neg c6] at H
      have c6b0 : (a0 == 0) = false := beq_eq_false_iff_ne.mpr c6
      have c6b1 : (a0 != 0) = true := bne_iff_ne.mpr c6
      have H' := am H
      clear H
      go_wp2
      go_roundg k1
      case measure => have := HK1.out;omega
      case rel => exact ⟨(Int.tmod (IntKind.u64.wrap (x1_1 + x1_1)) a0),(IntKind.u64.wrap (Int.tdiv x2_1 2)),(Int.tmod (IntKind.u64.wrap (x7_1 + x1_1)) a0),(by first|rfl|(simp;done)|(simp [*];done)),(by first|rfl|(simp;done)|(simp [*];done)),(by first|rfl|(simp;done)|(simp [*];done)),H',⟨by have := HK1.out;omega⟩,by repeat (first|exact Drawn0.refl _|apply Drawn0.step)⟩
    ·rw [if_neg c5] at H
     have c5b0 : ((Int.tmod x2_1 2) == 1) = false := beq_eq_false_iff_ne.mpr c5
     have c5b1 : ((Int.tmod x2_1 2) != 1) = true := bne_iff_ne.mpr c5
     by_cases c7 : a0 = 0
     ·rw [if_pos c7] at H
      exact absurd H (by simp)
     ·rw [if_neg c7] at H
      have c7b0 : (a0 == 0) = false := beq_eq_false_iff_ne.mpr c7
      have c7b1 : (a0 != 0) = true := bne_iff_ne.mpr c7
      have H' := am H
      clear H
      go_wp2
      go_roundg k1
      case measure => have := HK1.out;omega
      case rel => exact ⟨(Int.tmod (IntKind.u64.wrap (x1_1 + x1_1)) a0),(IntKind.u64.wrap (Int.tdiv x2_1 2)),(x7_1),(by first|rfl|(simp;done)|(simp [*];done)),(by first|rfl|(simp;done)|(simp [*];done)),(by first|rfl|(simp;done)|(simp [*];done)),H',⟨by have := HK1.out;omega⟩,by repeat (first|exact Drawn0.refl _|apply Drawn0.step)⟩
   ·rw [if_neg c4] at H
    have c4b0 : decide (0 < x2_1) = false := decide_eq_false c4
    clear c4
    obtain rfl := Option.some.inj H
    go_wp2
    go_ret
    exact ⟨by first|rfl|(simp;done)|(simp [*];done),by repeat (first|exact Drawn0.refl _|apply Drawn0.step)⟩
def privityref01_Pow.l0 : Nat → Int → Int → Int → Int → Option (Int)
 | 0,_,_,_,_ => none
 | k + 1,x0,x1,x2,x7 => if x2 > 0 then (if (Int.tmod x2 2) = 1 then ((privityref01_Mul.f k x0 x7 x1).bind fun t140 => ((privityref01_Mul.f k x0 x1 x1).bind fun t141 => (privityref01_Pow.l0 k x0 t141 (IntKind.u64.wrap (Int.tdiv x2 2)) t140))) else ((privityref01_Mul.f k x0 x1 x1).bind fun t142 => (privityref01_Pow.l0 k x0 t142 (IntKind.u64.wrap (Int.tdiv x2 2)) x7))) else (some x7)
def privityref01_Pow.f (k : Nat) (a0 : Int) (a1 : Int) (a2 : Int) : Option (Int) := privityref01_Pow.l0 k a0 a1 a2 1
theorem privityref01_Pow.mono_l : ∀ k,(∀ y0 y1 y2 y3,LeO (privityref01_Pow.l0 k y0 y1 y2 y3) (privityref01_Pow.l0 (k + 1) y0 y1 y2 y3))
 | 0 => fun _ _ _ _ r h => by simp [privityref01_Pow.l0] at h
 | k + 1 => by
  have ih0 := privityref01_Pow.mono_l k
  ·intro y0 y1 y2 y3
   unfold privityref01_Pow.l0
   repeat' first
   | (with_reducible exact ih0 _ _ _ _)
   | (with_reducible exact privityref01_Mul.mono _ _ _ _)
   | (with_reducible exact LeO.refl _)
   | (with_reducible exact LeO.none _)
   | (with_reducible refine LeO.ite ?_ ?_)
   | (with_reducible refine LeO.bind ?_ (fun _ => ?_))
   | exact ih0 _ _ _ _
   | exact privityref01_Mul.mono _ _ _ _
   | exact LeO.none _
   | refine LeO.ite ?_ ?_
   | refine LeO.bind ?_ (fun _ => ?_)
set_option maxHeartbeats 8000000 in
set_option maxRecDepth 100000 in
theorem privityref01_Pow.calls (k : Nat) (a0 : Int) (a1 : Int) (a2 : Int) (r : Int) (w : World) (h : privityref01_Pow.f k a0 a1 a2 = some r) :
  Calls Try.prog 104 #[.int .u64 a0,.int .u64 a1,.int .u64 a2] w fun e w' => e = .returned (.int .u64 r) ∧ Drawn0 w w' := by
 have H : (privityref01_Pow.l0 k a0 a1 a2 1) = some r := h
 clear h
 have H' := am H
 clear H
 go_enter Try.func104,Try.ntmps104
 go_wp2
 go_loopg [1,2,7] k (fun kq v1 v2 v7 w' => ∃ (x1_1 : Int) (x2_1 : Int) (x7_1 : Int),v1 = .int .u64 x1_1 ∧ v2 = .int .u64 x2_1 ∧ v7 = .int .u64 x7_1 ∧ Aside0 (privityref01_Pow.l0 kq a0 x1_1 x2_1 x7_1 = some r) ∧ Aside0 (kq ≤ k) ∧ Drawn0 w w')
 case atStart => exact ⟨(a1),(a2),(1),(by first|rfl|(simp;done)|(simp [*];done)),(by first|rfl|(simp;done)|(simp [*];done)),(by first|rfl|(simp;done)|(simp [*];done)),H',⟨Nat.le_refl _⟩,by repeat (first|exact Drawn0.refl _|apply Drawn0.step)⟩
 case round =>
  clear H'
  try clear c1
  try clear p2
  obtain ⟨x1_1,x2_1,x7_1,rfl,rfl,rfl,HA,HK1,⟨m1,rfl⟩⟩ := hrel
  cases gk with
  | zero => exact absurd HA.out (by simp [privityref01_Pow.l0])
  | succ k1 =>
   have H := HA.out
   clear HA
   simp only [privityref01_Pow.l0] at H
   by_cases c4 : x2_1 > 0
   ·rw [if_pos c4] at H
    have c4b0 : decide (0 < x2_1) = true := decide_eq_true c4
    clear c4
    by_cases c5 : (Int.tmod x2_1 2) = 1
    ·rw [if_pos c5] at H
     have c5b0 : ((Int.tmod x2_1 2) == 1) = true := beq_iff_eq.mpr c5
     have c5b1 : ((Int.tmod x2_1 2) != 1) = false := bne_eq_false_iff_eq.mpr c5
     clear c5
     replace H := Option.bind_eq_some_iff.mp H
     obtain ⟨t140,A60,H⟩ := H
     try dsimp only at H
     have A6 := am A60
     clear A60
     replace H := Option.bind_eq_some_iff.mp H
     obtain ⟨t141,A70,H⟩ := H
     try dsimp only at H
     have A7 := am A70
     clear A70
     have H' := am H
     clear H
     go_wp2_with (first|((with_reducible refine gate_callee (f := 78) rfl ?_);refine goesL_ (some 16) rfl rfl Try.func78 (by kernel_rfl) rfl #[.int .u64 a0,.int .u64 x7_1,.int .u64 x1_1] rfl (by (try simp only [List.map_toArray,List.map_cons,List.map_nil]);first|done|rfl|(simp only [List.length_drop,List.length_take];rfl)) ?_;(with_reducible refine (privityref01_Mul.calls k1 a0 x7_1 x1_1 t140 _ A6.out).mono ?_);rintro e w' ⟨rfl,⟨nd,rfl⟩⟩;refine ⟨_,rfl,?_⟩)|((with_reducible refine gate_callee (f := 78) rfl ?_);refine goesL_ (some 20) rfl rfl Try.func78 (by kernel_rfl) rfl #[.int .u64 a0,.int .u64 x1_1,.int .u64 x1_1] rfl (by (try simp only [List.map_toArray,List.map_cons,List.map_nil]);first|done|rfl|(simp only [List.length_drop,List.length_take];rfl)) ?_;(with_reducible refine (privityref01_Mul.calls k1 a0 x1_1 x1_1 t141 _ A7.out).mono ?_);rintro e w' ⟨rfl,⟨nd,rfl⟩⟩;refine ⟨_,rfl,?_⟩))
     go_roundg k1
     case measure => have := HK1.out;omega
     case rel => exact ⟨(t141),(IntKind.u64.wrap (Int.tdiv x2_1 2)),(t140),(by first|rfl|(simp;done)|(simp [*];done)),(by first|rfl|(simp;done)|(simp [*];done)),(by first|rfl|(simp;done)|(simp [*];done)),H',⟨by have := HK1.out;omega⟩,by repeat (first|exact Drawn0.refl _|apply Drawn0.step)⟩
    ·rw [if_neg c5] at H
     have c5b0 : ((Int.tmod x2_1 2) == 1) = false := beq_eq_false_iff_ne.mpr c5
     have c5b1 : ((Int.tmod x2_1 2) != 1) = true := bne_iff_ne.mpr c5
     replace H := Option.bind_eq_some_iff.mp H
     obtain ⟨t142,A80,H⟩ := H
     try dsimp only at H
     have A8 := am A80
     clear A80
     have H' := am H
     clear H
     go_wp2_with (first|((with_reducible refine gate_callee (f := 78) rfl ?_);refine goesL_ (some 20) rfl rfl Try.func78 (by kernel_rfl) rfl #[.int .u64 a0,.int .u64 x1_1,.int .u64 x1_1] rfl (by (try simp only [List.map_toArray,List.map_cons,List.map_nil]);first|done|rfl|(simp only [List.length_drop,List.length_take];rfl)) ?_;(with_reducible refine (privityref01_Mul.calls k1 a0 x1_1 x1_1 t142 _ A8.out).mono ?_);rintro e w' ⟨rfl,⟨nd,rfl⟩⟩;refine ⟨_,rfl,?_⟩))
     go_roundg k1
     case measure => have := HK1.out;omega
     case rel => exact ⟨(t142),(IntKind.u64.wrap (Int.tdiv x2_1 2)),(x7_1),(by first|rfl|(simp;done)|(simp [*];done)),(by first|rfl|(simp;done)|(simp [*];done)),(by first|rfl|(simp;done)|(simp [*];done)),H',⟨by have := HK1.out;omega⟩,by repeat (first|exact Drawn0.refl _|apply Drawn0.step)⟩
   ·rw [if_neg c4] at H
    have c4b0 : decide (0 < x2_1) = false := decide_eq_false c4
    clear c4
    obtain rfl := Option.some.inj H
    go_wp2
    go_ret
    exact ⟨by first|rfl|(simp;done)|(simp [*];done),by repeat (first|exact Drawn0.refl _|apply Drawn0.step)⟩
def privityref01_Inverse.f (k : Nat) (a0 : Int) (a1 : Int) : Option (Int × Int) := if a1 = 0 then (some (0,8)) else ((privityref01_Pow.f k a0 a1 (IntKind.u64.wrap (a0 - 2))).bind fun t143 => (some (t143,0)))
set_option maxHeartbeats 8000000 in
set_option maxRecDepth 100000 in
theorem privityref01_Inverse.calls (k : Nat) (a0 : Int) (a1 : Int) (r1 : Int) (r2 : Int) (w : World) (h : privityref01_Inverse.f k a0 a1 = some (r1,r2)) :
  Calls Try.prog 91 #[.int .u64 a0,.int .u64 a1] w fun e w' => e = .returned (.tuple #[.int .u64 r1,.int .i64 r2]) ∧ Drawn0 w w' := by
 have H : (if a1 = 0 then (some (0,8)) else ((privityref01_Pow.f k a0 a1 (IntKind.u64.wrap (a0 - 2))).bind fun t143 => (some (t143,0)))) = some (r1,r2) := h
 clear h
 by_cases c3 : a1 = 0
 ·rw [if_pos c3] at H
  have c3b0 : (a1 == 0) = true := beq_iff_eq.mpr c3
  have c3b1 : (a1 != 0) = false := bne_eq_false_iff_eq.mpr c3
  clear c3
  simp only [Option.some.injEq,Prod.mk.injEq] at H
  obtain ⟨rfl,rfl⟩ := H
  go_enter Try.func91,Try.ntmps91
  go_wp2
  go_ret2
  exact ⟨by first|rfl|(simp;done)|(simp [*];done),by repeat (first|exact Drawn0.refl _|apply Drawn0.step)⟩
 ·rw [if_neg c3] at H
  have c3b0 : (a1 == 0) = false := beq_eq_false_iff_ne.mpr c3
  have c3b1 : (a1 != 0) = true := bne_iff_ne.mpr c3
  replace H := Option.bind_eq_some_iff.mp H
  obtain ⟨t143,A40,H⟩ := H
  try dsimp only at H
  have A4 := am A40
  clear A40
  simp only [Option.some.injEq,Prod.mk.injEq] at H
  obtain ⟨rfl,rfl⟩ := H
  go_enter Try.func91,Try.ntmps91
  go_wp2_with (first|((with_reducible refine gate_callee (f := 104) rfl ?_);refine goesL_ (some 12) rfl rfl Try.func104 (by kernel_rfl) rfl #[.int .u64 a0,.int .u64 a1,.int .u64 (IntKind.u64.wrap (a0 - 2))] rfl (by (try simp only [List.map_toArray,List.map_cons,List.map_nil]);first|done|rfl|(simp only [List.length_drop,List.length_take];rfl)) ?_;(with_reducible refine (privityref01_Pow.calls k a0 a1 (IntKind.u64.wrap (a0 - 2)) t143 _ A4.out).mono ?_);rintro e w' ⟨rfl,⟨nd,rfl⟩⟩;refine ⟨_,rfl,?_⟩))
  go_ret2
  exact ⟨by first|rfl|(simp;done)|(simp [*];done),by repeat (first|exact Drawn0.refl _|apply Drawn0.step)⟩
def privityref01_Add.f (a0 : Int) (a1 : Int) (a2 : Int) : Option (Int) := if a0 = 0 then (none) else (some (Int.tmod (IntKind.u64.wrap (a1 + a2)) a0))
set_option maxHeartbeats 8000000 in
set_option maxRecDepth 100000 in
theorem privityref01_Add.calls (a0 : Int) (a1 : Int) (a2 : Int) (r : Int) (w : World) (h : privityref01_Add.f a0 a1 a2 = some r) :
  Calls Try.prog 77 #[.int .u64 a0,.int .u64 a1,.int .u64 a2] w fun e w' => e = .returned (.int .u64 r) ∧ Drawn0 w w' := by
 have H : (if a0 = 0 then (none) else (some (Int.tmod (IntKind.u64.wrap (a1 + a2)) a0))) = some r := h
 clear h
 by_cases c4 : a0 = 0
 ·rw [if_pos c4] at H
  exact absurd H (by simp)
 ·rw [if_neg c4] at H
  have c4b0 : (a0 == 0) = false := beq_eq_false_iff_ne.mpr c4
  have c4b1 : (a0 != 0) = true := bne_iff_ne.mpr c4
  obtain rfl := Option.some.inj H
  go_enter Try.func77,Try.ntmps77
  go_wp2
  go_ret
  exact ⟨by first|rfl|(simp;done)|(simp [*];done),by repeat (first|exact Drawn0.refl _|apply Drawn0.step)⟩
def privityref04_Trim.l0 : Nat → List Int → Int → Option (List Int)
 | 0,_,_ => none
 | k + 1,x0,x3 => if x3 > 0 then (if 0 ≤ (wrap64 (x3 - 1)) then (if (wrap64 (x3 - 1)) < (x0.length : Int) then (if (rd x0 (wrap64 (x3 - 1))) = 0 then (privityref04_Trim.l0 k x0 (wrap64 (x3 - 1))) else ((some (([] : List Int) : List Int)).bind fun y145 => (if 0 ≤ x3 then (if x3 ≤ (x0.length : Int) then (if y145.length + (x0.take (x3 : Int).toNat).length < 17592186044416 then (some (y145 ++ (x0.take (x3 : Int).toNat))) else (none)) else (none)) else (none)))) else (none)) else (none)) else ((some (([] : List Int) : List Int)).bind fun y152 => (if 0 ≤ x3 then (if x3 ≤ (x0.length : Int) then (if y152.length + (x0.take (x3 : Int).toNat).length < 17592186044416 then (some (y152 ++ (x0.take (x3 : Int).toNat))) else (none)) else (none)) else (none)))
def privityref04_Trim.f (k : Nat) (l0 : List Int) : Option (List Int) := privityref04_Trim.l0 k l0 (l0.length : Int)
set_option maxHeartbeats 8000000 in
set_option maxRecDepth 100000 in
theorem privityref04_Trim.calls (k : Nat) (A0 : Option Addr) (c0 : Nat) (l0 : List Int) (r : List Int) (w : World) (hr0 : Kd.C (Kd.int .u64) w A0 l0.length l0) (hc0 : l0.length ≤ c0) (h : privityref04_Trim.f k l0 = some r) :
  Calls Try.prog 97 #[.slice A0 l0.length c0] w fun e w' => ∃ v0_ : Value,e = .returned (v0_) ∧ Kd.R (Kd.int .u64) 22 w' w.heap.size (fun _ => True) v0_ r ∧ Below w.heap.size w w' := by
 have HR0 := am hr0
 have HC0 := am hc0
 clear hr0 hc0
 have HB := am (Below.refl w.heap.size w)
 have H : (privityref04_Trim.l0 k l0 (l0.length : Int)) = some r := h
 clear h
 have H' := am H
 clear H
 go_enter Try.func97,Try.ntmps97
 go_wp2
 go_loopg [3] k (fun kq v3 w' => ∃ (x3_1 : Int),v3 = .int .i64 x3_1 ∧ Aside0 (privityref04_Trim.l0 kq l0 x3_1 = some r) ∧ Aside0 (kq ≤ k) ∧ Aside0 (Below w.heap.size w w'))
 case atStart => exact ⟨((l0.length : Int)),(by first|rfl|(simp;done)|(simp [*];done)),H',⟨Nat.le_refl _⟩,⟨bb HB⟩⟩
 case round =>
  clear H'
  obtain ⟨x3_1,rfl,HA,HK1,HB⟩ := hrel
  cases gk with
  | zero => exact absurd HA.out (by simp [privityref04_Trim.l0])
  | succ k1 =>
   have H := HA.out
   clear HA
   simp only [privityref04_Trim.l0] at H
   by_cases c2 : x3_1 > 0
   ·rw [if_pos c2] at H
    have c2b0 : decide (0 < x3_1) = true := decide_eq_true c2
    clear c2
    obtain ⟨ji3,hji3⟩ : ∃ j_ : Int,(wrap64 (x3_1 - 1)) = j_ := ⟨_,rfl⟩
    first|rw [hji3] at H|simp only [hji3] at H
    have hji3w : (IntKind.i64.wrap (x3_1 - 1)) = ji3 := (i64_w _).trans hji3
    by_cases c4 : 0 ≤ (ji3)
    ·rw [if_pos c4] at H
     have c4b0 : decide (0 ≤ (ji3)) = true := decide_eq_true c4
     clear c4
     by_cases c5 : (ji3) < (l0.length : Int)
     ·rw [if_pos c5] at H
      have c5b0 : decide ((ji3) < (l0.length : Int)) = true := decide_eq_true c5
      clear c5
      by_cases c6 : (rd l0 (ji3)) = 0
      ·rw [if_pos c6] at H
       have c6b0 : ((rd l0 (ji3)) == 0) = true := beq_iff_eq.mpr c6
       have c6b1 : ((rd l0 (ji3)) != 0) = false := bne_eq_false_iff_eq.mpr c6
       clear c6
       have H' := am H
       clear H
       have p144 : 0 ≤ ((ji3) : Int) := od
       have q144 : (ji3) < (l0.length : Int) := od
       obtain ⟨ad144,e144,hx144_0⟩ := Kd.at_int HR0.out (ji3) p144 q144
       cases e144
       replace hx144_0 := (HB.out.cell (World.block_lt_of_cell? w _ hx144_0)).trans hx144_0
       replace p144 := eq_true p144
       replace q144 := eq_true q144
       go_wp2
       go_roundg k1
       case measure => have := HK1.out;omega
       case rel => exact ⟨(ji3),(by first|rfl|(simp;done)|(simp only [← hji3] <;> (first|rfl|simp))|(simp [*];done)),H',⟨by have := HK1.out;omega⟩,⟨bb HB⟩⟩
      ·rw [if_neg c6] at H
       have c6b0 : ((rd l0 (ji3)) == 0) = false := beq_eq_false_iff_ne.mpr c6
       have c6b1 : ((rd l0 (ji3)) != 0) = true := bne_iff_ne.mpr c6
       obtain ⟨y145,hy145⟩ : ∃ y_ : List Int,y_ = (([] : List Int)) := ⟨_,rfl⟩
       replace H : (if 0 ≤ x3_1 then (if x3_1 ≤ (l0.length : Int) then (if y145.length + (l0.take (x3_1 : Int).toNat).length < 17592186044416 then (some (y145 ++ (l0.take (x3_1 : Int).toNat))) else (none)) else (none)) else (none)) = some r := by first|(rw [hy145];with_reducible exact H)|(have H2_ := (Option.bind_some _ _).symm.trans H;rw [hy145];with_reducible exact H2_)|(have H2_ := (Option.bind_some _ _).symm.trans H;with_reducible exact H2_)|with_reducible exact H|(rw [hy145];exact H)|exact H
       have Ny145 := am hy145
       clear hy145
       by_cases c7 : 0 ≤ x3_1
       ·rw [if_pos c7] at H
        have c7b0 := eq_true c7
        have c7b1 : decide (0 ≤ x3_1) = true := decide_eq_true c7
        clear c7
        by_cases c8 : x3_1 ≤ (l0.length : Int)
        ·rw [if_pos c8] at H
         have c8b0 := eq_true c8
         have c8b1 : decide (x3_1 ≤ (l0.length : Int)) = true := decide_eq_true c8
         clear c8
         by_cases c9 : y145.length + (l0.take (x3_1 : Int).toNat).length < 17592186044416
         ·rw [if_pos c9] at H
          have LMc9 := am c9
          clear c9
          obtain ⟨y149,hy149⟩ : ∃ y_ : List Int,y_ = (y145 ++ (l0.take (x3_1 : Int).toNat)) := ⟨_,rfl⟩
          replace H : (some y149) = some r := by first|(rw [hy149];with_reducible exact H)|(have H2_ := (Option.bind_some _ _).symm.trans H;rw [hy149];with_reducible exact H2_)|(have H2_ := (Option.bind_some _ _).symm.trans H;with_reducible exact H2_)|with_reducible exact H|(rw [hy149];exact H)|exact H
          have Ny149 := am hy149
          clear hy149
          obtain rfl := Option.some.inj H
          have p144 : 0 ≤ ((ji3) : Int) := od
          have q144 : (ji3) < (l0.length : Int) := od
          obtain ⟨ad144,e144,hx144_0⟩ := Kd.at_int HR0.out (ji3) p144 q144
          cases e144
          replace hx144_0 := (HB.out.cell (World.block_lt_of_cell? w _ hx144_0)).trans hx144_0
          replace p144 := eq_true p144
          replace q144 := eq_true q144
          go_wp2_with (first|((with_reducible refine gate_dst (N := 18) rfl ?_);refine Kd.R_lit (Kd.int .u64) _ 22 ?hg (N := 18) ?hd (xs := ([] : List Int)) (inner := []) (ok := fun _ => True) (okp := fun _ => True) ?hr ?hp (fun _ hk => hk) trivial (Below.refl _ _) (Nat.le_refl _) (by simp) ?_;(case hd => rfl);(case hg => rfl);(case hr => first|(go_simp;done)|(go_simp;rfl));(case hp => exact (Reps.none _ _));intro v146 w10 ho11 hb hg_ hnew_;clear hg_ hnew_;(first|rw [← Ny145.out] at ho11|(simp only [Int.reduceToNat] at ho11;rw [← Ny145.out] at ho11));have n0_ := am (Kd.R_lower ho11 (below_size (bb HB)));have n1_ := am (below_step (bb HB) hb);clear HB;have HO147 := n0_;have HB := n1_;clear n0_ n1_;clear hb ho11;obtain ⟨i012,hi012,_,hsz12,_⟩ := info_parts info22;obtain ⟨hcut12,hA12,hC12⟩ := print_take_of (P := Try.prog) (Value.int .u64) 0 40 22 .i64 Try.underlying40 hi012 hsz12 (some ad144) c0 l0 x3_1 (od) (od) HC0.out;have HR148 := am (Kd.C_of_reads (h1 := fun _ => rfl) (hA12 _ (Kd.reads_of_C HR0.out)));have HC148 := am hC12;clear hA12 hC12 hi012 hsz12)|((with_reducible refine gate_builtin (b := .append) (xs := #[.tmp 18,.tmp 21]) rfl ?_);at_builtin;refine Kd.R_append_rows (Kd.int .u64) (w0 := w) w.heap.size rfl (.tmp 18) (.tmp 21) 40 22 (.int .u64 0) 8 rfl Try.underlying40 info22 rfl (by decide) (by omega) v146 y145 (l0.take (x3_1 : Int).toNat) _ _ _ (fun _ => True) (fun _ => False) rfl rfl ?aO ?aR (fun _ _ h => h) (fun _ h => h.elim) ?aF ?aB ?aS ?aL ?_;(case aR => first|(refine cut_cast (show (l0.take (x3_1 : Int).toNat).length = x3_1.toNat from (by rw [List.length_take];have h_ : (x3_1 : Int) ≤ (l0.length : Int) := od;omega)) ?_;repeat (first|exact (Kd.C_below HR148.out HB.out)|(with_reducible refine Kd.C_alloc ?_ _)|(with_reducible refine Kd.C_drewN ?_ _)|(with_reducible refine Kd.C_drew ?_)))|(repeat (first|exact (Kd.C_below HR148.out HB.out)|(with_reducible refine Kd.C_alloc ?_ _)|(with_reducible refine Kd.C_drewN ?_ _)|(with_reducible refine Kd.C_drew ?_))));(case aB => exact (bb HB));(case aF => exact (fun _ _ => trivial));(case aO => exact (rr HO147));(case aS => exact (below_size (bb HB)));(case aL => have := LMc9.out;have hlx_ := (show (l0.take (x3_1 : Int).toNat).length = x3_1.toNat from (by rw [List.length_take];have h_ : (x3_1 : Int) ≤ (l0.length : Int) := od;omega));omega);intro v150 w13 ho hb hg hat;rw [← Ny149.out] at ho;have n0_ := am (hb);have n1_ := am (ho);clear HB HO147;have HB := n0_;have HO151 := n1_;clear n0_ n1_;clear ho hb hg hat))
          go_ret
          exact ⟨_,by first|rfl|(simp [errW_none,errW_some] <;> rfl)|(simp only [← hji3];first|rfl|(simp [errW_none,errW_some] <;> rfl))|(simp [*,errW_none,errW_some] <;> rfl),by (with_reducible repeat (first|apply Kd.R_alloc|apply Kd.R_drewN|apply Kd.R_drew));exact HO151.out,bb HB⟩
         ·rw [if_neg c9] at H
          exact absurd H (by simp)
        ·rw [if_neg c8] at H
         exact absurd H (by simp)
       ·rw [if_neg c7] at H
        exact absurd H (by simp)
     ·rw [if_neg c5] at H
      exact absurd H (by simp)
    ·rw [if_neg c4] at H
     exact absurd H (by simp)
   ·rw [if_neg c2] at H
    have c2b0 : decide (0 < x3_1) = false := decide_eq_false c2
    clear c2
    obtain ⟨y152,hy152⟩ : ∃ y_ : List Int,y_ = (([] : List Int)) := ⟨_,rfl⟩
    replace H : (if 0 ≤ x3_1 then (if x3_1 ≤ (l0.length : Int) then (if y152.length + (l0.take (x3_1 : Int).toNat).length < 17592186044416 then (some (y152 ++ (l0.take (x3_1 : Int).toNat))) else (none)) else (none)) else (none)) = some r := by first|(rw [hy152];with_reducible exact H)|(have H2_ := (Option.bind_some _ _).symm.trans H;rw [hy152];with_reducible exact H2_)|(have H2_ := (Option.bind_some _ _).symm.trans H;with_reducible exact H2_)|with_reducible exact H|(rw [hy152];exact H)|exact H
    have Ny152 := am hy152
    clear hy152
    by_cases c14 : 0 ≤ x3_1
    ·rw [if_pos c14] at H
     have c14b0 := eq_true c14
     have c14b1 : decide (0 ≤ x3_1) = true := decide_eq_true c14
     clear c14
     by_cases c15 : x3_1 ≤ (l0.length : Int)
     ·rw [if_pos c15] at H
      have c15b0 := eq_true c15
      have c15b1 : decide (x3_1 ≤ (l0.length : Int)) = true := decide_eq_true c15
      clear c15
      by_cases c16 : y152.length + (l0.take (x3_1 : Int).toNat).length < 17592186044416
      ·rw [if_pos c16] at H
       have LMc16 := am c16
       clear c16
       obtain ⟨y156,hy156⟩ : ∃ y_ : List Int,y_ = (y152 ++ (l0.take (x3_1 : Int).toNat)) := ⟨_,rfl⟩
       replace H : (some y156) = some r := by first|(rw [hy156];with_reducible exact H)|(have H2_ := (Option.bind_some _ _).symm.trans H;rw [hy156];with_reducible exact H2_)|(have H2_ := (Option.bind_some _ _).symm.trans H;with_reducible exact H2_)|with_reducible exact H|(rw [hy156];exact H)|exact H
       have Ny156 := am hy156
       clear hy156
       obtain rfl := Option.some.inj H
       go_wp2_with (first|((with_reducible refine gate_dst (N := 18) rfl ?_);refine Kd.R_lit (Kd.int .u64) _ 22 ?hg (N := 18) ?hd (xs := ([] : List Int)) (inner := []) (ok := fun _ => True) (okp := fun _ => True) ?hr ?hp (fun _ hk => hk) trivial (Below.refl _ _) (Nat.le_refl _) (by simp) ?_;(case hd => rfl);(case hg => rfl);(case hr => first|(go_simp;done)|(go_simp;rfl));(case hp => exact (Reps.none _ _));intro v153 w17 ho18 hb hg_ hnew_;clear hg_ hnew_;(first|rw [← Ny152.out] at ho18|(simp only [Int.reduceToNat] at ho18;rw [← Ny152.out] at ho18));have n0_ := am (Kd.R_lower ho18 (below_size (bb HB)));have n1_ := am (below_step (bb HB) hb);clear HB;have HO154 := n0_;have HB := n1_;clear n0_ n1_;clear hb ho18;obtain ⟨i019,hi019,_,hsz19,_⟩ := info_parts info22;obtain ⟨hcut19,hA19,hC19⟩ := print_take_of (P := Try.prog) (Value.int .u64) 0 40 22 .i64 Try.underlying40 hi019 hsz19 A0 c0 l0 x3_1 (od) (od) HC0.out;have HR155 := am (Kd.C_of_reads (h1 := fun _ => rfl) (hA19 _ (Kd.reads_of_C HR0.out)));have HC155 := am hC19;clear hA19 hC19 hi019 hsz19)|((with_reducible refine gate_builtin (b := .append) (xs := #[.tmp 18,.tmp 21]) rfl ?_);at_builtin;refine Kd.R_append_rows (Kd.int .u64) (w0 := w) w.heap.size rfl (.tmp 18) (.tmp 21) 40 22 (.int .u64 0) 8 rfl Try.underlying40 info22 rfl (by decide) (by omega) v153 y152 (l0.take (x3_1 : Int).toNat) _ _ _ (fun _ => True) (fun _ => False) rfl rfl ?aO ?aR (fun _ _ h => h) (fun _ h => h.elim) ?aF ?aB ?aS ?aL ?_;(case aR => first|(refine cut_cast (show (l0.take (x3_1 : Int).toNat).length = x3_1.toNat from (by rw [List.length_take];have h_ : (x3_1 : Int) ≤ (l0.length : Int) := od;omega)) ?_;repeat (first|exact (Kd.C_below HR155.out HB.out)|(with_reducible refine Kd.C_alloc ?_ _)|(with_reducible refine Kd.C_drewN ?_ _)|(with_reducible refine Kd.C_drew ?_)))|(repeat (first|exact (Kd.C_below HR155.out HB.out)|(with_reducible refine Kd.C_alloc ?_ _)|(with_reducible refine Kd.C_drewN ?_ _)|(with_reducible refine Kd.C_drew ?_))));(case aB => exact (bb HB));(case aF => exact (fun _ _ => trivial));(case aO => exact (rr HO154));(case aS => exact (below_size (bb HB)));(case aL => have := LMc16.out;have hlx_ := (show (l0.take (x3_1 : Int).toNat).length = x3_1.toNat from (by rw [List.length_take];have h_ : (x3_1 : Int) ≤ (l0.length : Int) := od;omega));omega);intro v157 w20 ho hb hg hat;rw [← Ny156.out] at ho;have n0_ := am (hb);have n1_ := am (ho);clear HB HO154;have HB := n0_;have HO158 := n1_;clear n0_ n1_;clear ho hb hg hat))
       go_ret
       exact ⟨_,by first|rfl|(simp [errW_none,errW_some] <;> rfl)|(simp [*,errW_none,errW_some] <;> rfl),by (with_reducible repeat (first|apply Kd.R_alloc|apply Kd.R_drewN|apply Kd.R_drew));exact HO158.out,bb HB⟩
      ·rw [if_neg c16] at H
       exact absurd H (by simp)
     ·rw [if_neg c15] at H
      exact absurd H (by simp)
    ·rw [if_neg c14] at H
     exact absurd H (by simp)
mutual
def privityref04_Mul.j0 : Nat → Int → List Int → List Int → Bool → Option (List Int)
 | 0,_,_,_,_ => none
 | k + 1,x0,x1,x2,x17 => if x17 = true then (some ([] : List Int)) else (if 0 ≤ (wrap64 ((wrap64 ((x1.length : Int) + (x2.length : Int))) - 1)) then (if (wrap64 ((wrap64 ((x1.length : Int) + (x2.length : Int))) - 1) : Int).toNat ≤ 35184372088832 then (privityref04_Mul.l0 k x0 x1 x2 (List.replicate (wrap64 ((wrap64 ((x1.length : Int) + (x2.length : Int))) - 1) : Int).toNat 0) 0) else (none)) else (none))
def privityref04_Mul.l0 : Nat → Int → List Int → List Int → List Int → Int → Option (List Int)
 | 0,_,_,_,_,_ => none
 | k + 1,x0,x1,x2,x7,x8 => if x8 < (x1.length : Int) then (privityref04_Mul.l1 k x0 x1 x2 x7 x8 0) else ((privityref04_Trim.f k x7).bind fun t162 => (some t162))
def privityref04_Mul.l1 : Nat → Int → List Int → List Int → List Int → Int → Int → Option (List Int)
 | 0,_,_,_,_,_,_ => none
 | k + 1,x0,x1,x2,x7,x8,x9 => if x9 < (x2.length : Int) then (if 0 ≤ (wrap64 (x8 + x9)) then (if (wrap64 (x8 + x9)) < (x7.length : Int) then (if 0 ≤ x8 then (if x8 < (x1.length : Int) then (if 0 ≤ x9 then ((privityref01_Mul.f k x0 (rd x1 x8) (rd x2 x9)).bind fun t168 => ((privityref01_Add.f x0 (rd x7 (wrap64 (x8 + x9))) t168).bind fun t169 => (privityref04_Mul.l1 k x0 x1 x2 (x7.set ((wrap64 (x8 + x9)) : Int).toNat t169) x8 (wrap64 (x9 + 1))))) else (none)) else (none)) else (none)) else (none)) else (none)) else (privityref04_Mul.l0 k x0 x1 x2 x7 (wrap64 (x8 + 1)))
end
def privityref04_Mul.f (k : Nat) (a0 : Int) (l1 : List Int) (l2 : List Int) : Option (List Int) := if (l1.length : Int) = 0 then (privityref04_Mul.j0 k a0 l1 l2 true) else (privityref04_Mul.j0 k a0 l1 l2 ((l2.length : Int) == 0))
def privityref04_Mul.T10 : Bool × List (List Nat × List Nat) := (true,[([],[]),([],[]),([],[]),([1,2],[1,2]),([],[]),([],[]),([],[]),([],[]),([6,7],[6,7]),([5,8],[5,8]),([9],[9]),([],[]),([],[]),([],[]),([12,13],[12,13]),([14],[14]),([],[]),([],[]),([16,17],[16,17]),([18],[18]),([11,15,19],[11,15,19]),([4,10,20,20],[4,10,20]),([0,3,0,1,2,3,4,5,6,7,8,9,10,11,12,13,14,15,16,17,18,19,20,21],[0,3]),([22,21,21,0,1,2,3,4,5,6,7,8,9,10,11,12,13,14,15,16,17,18,19,20,21],[21,22])])
def privityref04_Mul.B10 : List Nat := [0,0,0,6,0,0,0,0,192,480,992,0,0,0,12288,28672,0,0,196608,458752,1046528,2097136,4194303,8388607]
theorem privityref04_Mul.tab10 : rtab .any (opsOf Try.f92 10) = privityref04_Mul.T10 := by kernel_rfl
theorem privityref04_Mul.bits10 : waitsOk privityref04_Mul.T10.2 privityref04_Mul.B10 = true := by kernel_rfl
set_option maxHeartbeats 8000000 in
set_option maxRecDepth 100000 in
theorem privityref04_Mul.calls (k : Nat) (a0 : Int) (A1 : Option Addr) (c1 : Nat) (l1 : List Int) (A2 : Option Addr) (c2 : Nat) (l2 : List Int) (r : List Int) (w : World) (hr1 : Kd.C (Kd.int .u64) w A1 l1.length l1) (hc1 : l1.length ≤ c1) (hr2 : Kd.C (Kd.int .u64) w A2 l2.length l2) (hc2 : l2.length ≤ c2) (h : privityref04_Mul.f k a0 l1 l2 = some r) :
  Calls Try.prog 92 #[.int .u64 a0,.slice A1 l1.length c1,.slice A2 l2.length c2] w fun e w' => ∃ v0_ : Value,e = .returned (v0_) ∧ Kd.R (Kd.int .u64) 22 w' w.heap.size (fun _ => True) v0_ r ∧ Below w.heap.size w w' := by
 have HR1 := am hr1
 have HC1 := am hc1
 clear hr1 hc1
 have HR2 := am hr2
 have HC2 := am hc2
 clear hr2 hc2
 have HB := am (Below.refl w.heap.size w)
 have H : (if (l1.length : Int) = 0 then (privityref04_Mul.j0 k a0 l1 l2 true) else (privityref04_Mul.j0 k a0 l1 l2 ((l2.length : Int) == 0))) = some r := h
 clear h
 have HC4 := am H
 clear H
 go_enter Try.func92,Try.ntmps92
 go_upto_region 1 with (fail)
 go_cut [17] (fun v17 wc => ∃ (kq : Nat) (x17_3 : Bool),v17 = .bool x17_3 ∧ Aside0 (privityref04_Mul.j0 kq a0 l1 l2 x17_3 = some r) ∧ Aside0 (kq ≤ k) ∧ Aside0 (Below w.heap.size w wc))
 case first =>
  have H := HC4.out
  clear HC4
  by_cases c5 : (l1.length : Int) = 0
  ·rw [if_pos c5] at H
   have c5b0 : ((l1.length : Int) == 0) = true := beq_iff_eq.mpr c5
   have c5b1 : ((l1.length : Int) != 0) = false := bne_eq_false_iff_eq.mpr c5
   clear c5
   (first|rw [c5b0]|(simp only [i64_w,i32_w];rw [c5b0])|skip)
   have H' := am H
   clear H
   go_wp2
   go_meet
   case rel => exact ⟨_,(true),(by first|rfl|(simp;done)|(simp [*];done)),H',⟨by first|omega|exact Nat.le_refl _⟩,⟨bb HB⟩⟩
  ·rw [if_neg c5] at H
   have c5b0 : ((l1.length : Int) == 0) = false := beq_eq_false_iff_ne.mpr c5
   have c5b1 : ((l1.length : Int) != 0) = true := bne_iff_ne.mpr c5
   have c5b2 : ¬ (l1 = []) := fun h_ => c5 (by rw [h_];rfl)
   (first|rw [c5b0]|(simp only [i64_w,i32_w];rw [c5b0])|skip)
   have H' := am H
   clear H
   go_wp2
   go_meet
   case rel => exact ⟨_,(((l2.length : Int) == 0)),(by first|rfl|(simp;done)|(simp [*];done)),H',⟨by first|omega|exact Nat.le_refl _⟩,⟨bb HB⟩⟩
 case rest =>
  clear HC4
  try clear c1
  try clear c2
  try clear p2
  try clear c5
  try clear c5b0
  try clear c5b1
  try clear c5b2
  obtain ⟨kq,x17_3,rfl,HA,HJ3,HB⟩ := hcut
  cases kq with
  | zero => exact absurd HA.out (by simp [privityref04_Mul.j0])
  | succ kj3 =>
   have H := HA.out
   clear HA
   simp only [privityref04_Mul.j0] at H
   by_cases c6 : x17_3 = true
   ·subst c6
    rw [if_pos rfl] at H
    obtain rfl := Option.some.inj H
    go_wp2
    go_ret
    exact ⟨_,by first|rfl|(simp [errW_none,errW_some] <;> rfl)|(simp [*,errW_none,errW_some] <;> rfl),by first|exact Kd.R_nil _ _ _ _ _|exact Kd.N_nil _ _ _ _ _|exact Kd.V_nil _ _ _ _ _|exact Kd.Q_nil _ _ _ _ _|exact Kd.S_nil _ _ _ _ _,bb HB⟩
   ·replace c6 := Bool.eq_false_iff.mpr c6
    subst c6
    rw [if_neg (show ¬ (false = true) by decide)] at H
    obtain ⟨ji7,hji7⟩ : ∃ j_ : Int,(wrap64 ((wrap64 ((l1.length : Int) + (l2.length : Int))) - 1)) = j_ := ⟨_,rfl⟩
    first|rw [hji7] at H|simp only [hji7] at H
    have hji7w : (IntKind.i64.wrap ((wrap64 ((l1.length : Int) + (l2.length : Int))) - 1)) = ji7 := (i64_w _).trans hji7
    by_cases c8 : 0 ≤ (ji7)
    ·rw [if_pos c8] at H
     have c8b0 := eq_true c8
     have c8b1 : decide (0 ≤ (ji7)) = true := decide_eq_true c8
     clear c8
     by_cases c9 : (ji7 : Int).toNat ≤ 35184372088832
     ·rw [if_pos c9] at H
      have c9b0 := eq_true c9
      have c9b1 : decide ((ji7 : Int).toNat ≤ 35184372088832) = true := decide_eq_true c9
      clear c9
      obtain ⟨y159,hy159⟩ : ∃ y_ : List Int,y_ = (List.replicate (ji7 : Int).toNat 0) := ⟨_,rfl⟩
      replace H : (privityref04_Mul.l0 kj3 a0 l1 l2 y159 0) = some r := by first|(rw [hy159];with_reducible exact H)|(have H2_ := (Option.bind_some _ _).symm.trans H;rw [hy159];with_reducible exact H2_)|(have H2_ := (Option.bind_some _ _).symm.trans H;with_reducible exact H2_)|with_reducible exact H|(rw [hy159];exact H)|exact H
      have Ny159 := am hy159
      clear hy159
      have H' := am H
      clear H
      go_wp2_with (first|((with_reducible refine gate_dst (N := 24) rfl ?_);(try (refine gate_guard (by rfl) ?_;dsimp only));refine Kd.R_make (Kd.int .u64) _ 22 rfl (N := 24) rfl 40 _ _ rfl ji7 rfl rfl Try.underlying40 (.int .u64 0) 8 info22 rfl (by decide) (by omega) 0 (ok := fun _ => True) (okp := fun _ => True) rfl (fun _ hk => hk) trivial (od) (Nat.le_trans (Nat.mul_le_mul_right _ (od : ji7.toNat ≤ 35184372088832)) (by omega)) (Below.refl _ _) (Nat.le_refl _) ?_;intro v160 w10 ho11 hb hg_ hnew_;clear hg_ hnew_;(first|rw [← Ny159.out] at ho11|(simp only [Int.reduceToNat] at ho11;rw [← Ny159.out] at ho11));have n0_ := am (Kd.R_lower ho11 (below_size (bb HB)));have n1_ := am (below_step (bb HB) hb);clear HB;have HO161 := n0_;have HB := n1_;clear n0_ n1_;clear hb ho11))
      go_loopg [8] kj3 (fun kq v8 w' => ∃ (x7_2 : List Int) (x8_2 : Int),v8 = .int .i64 x8_2 ∧ Aside0 (privityref04_Mul.l0 kq a0 l1 l2 x7_2 x8_2 = some r) ∧ Aside0 (kq ≤ kj3) ∧ Aside0 (Kd.R (Kd.int .u64) 22 w' w.heap.size (fun _ => True) v160 x7_2) ∧ Aside0 (Below w.heap.size w w'))
      case atStart => exact ⟨(y159),(0),(by first|rfl|(simp;done)|(simp [*];done)),H',⟨Nat.le_refl _⟩,⟨by (with_reducible repeat (first|apply Kd.R_alloc|apply Kd.R_drewN|apply Kd.R_drew));exact HO161.out⟩,⟨bb HB⟩⟩
      case round =>
       clear H'
       try clear c1
       try clear c2
       try clear p2
       try clear c5
       try clear c5b0
       try clear c5b1
       try clear c5b2
       try clear c6
       try clear p6
       try clear c8
       try clear c8b0
       try clear c8b1
       try clear c9
       try clear c9b0
       try clear c9b1
       try clear p2
       obtain ⟨x7_2,x8_2,rfl,HA,HK2,HO_7,HB⟩ := hrel
       cases gk with
       | zero => exact absurd HA.out (by simp [privityref04_Mul.l0])
       | succ k2 =>
        have H := HA.out
        clear HA
        simp only [privityref04_Mul.l0] at H
        by_cases c12 : x8_2 < (l1.length : Int)
        ·rw [if_pos c12] at H
         have c12b0 : decide (x8_2 < (l1.length : Int)) = true := decide_eq_true c12
         clear c12
         have H' := am H
         clear H
         go_wp2
         go_loopg [9] k2 (fun kq v9 w' => ∃ (x7_3 : List Int) (x9_3 : Int),v9 = .int .i64 x9_3 ∧ Aside0 (privityref04_Mul.l1 kq a0 l1 l2 x7_3 x8_2 x9_3 = some r) ∧ Aside0 (kq ≤ k2) ∧ Aside0 (Kd.R (Kd.int .u64) 22 w' w.heap.size (fun _ => True) v160 x7_3) ∧ Aside0 (Below w.heap.size w w'))
         case atStart => exact ⟨(x7_2),(0),(by first|rfl|(simp;done)|(simp [*];done)),H',⟨Nat.le_refl _⟩,⟨by (with_reducible repeat (first|apply Kd.R_alloc|apply Kd.R_drewN|apply Kd.R_drew));exact HO_7.out⟩,⟨bb HB⟩⟩
         case round =>
          clear H'
          try clear c1
          try clear c2
          try clear p2
          try clear c5
          try clear c5b0
          try clear c5b1
          try clear c5b2
          try clear c6
          try clear p6
          try clear c8
          try clear c8b0
          try clear c8b1
          try clear c9
          try clear c9b0
          try clear c9b1
          try clear c12
          try clear c12b0
          try clear p2
          try clear p6
          obtain ⟨x7_3,x9_3,rfl,HA,HK3,HO_7,HB⟩ := hrel
          cases gk with
          | zero => exact absurd HA.out (by simp [privityref04_Mul.l1])
          | succ k3 =>
           have H := HA.out
           clear HA
           simp only [privityref04_Mul.l1] at H
           by_cases c13 : x9_3 < (l2.length : Int)
           ·rw [if_pos c13] at H
            have c13b0 : decide (x9_3 < (l2.length : Int)) = true := decide_eq_true c13
            clear c13
            obtain ⟨ji14,hji14⟩ : ∃ j_ : Int,(wrap64 (x8_2 + x9_3)) = j_ := ⟨_,rfl⟩
            first|rw [hji14] at H|simp only [hji14] at H
            have hji14w : (IntKind.i64.wrap (x8_2 + x9_3)) = ji14 := (i64_w _).trans hji14
            by_cases c15 : 0 ≤ (ji14)
            ·rw [if_pos c15] at H
             have c15b0 : decide (0 ≤ (ji14)) = true := decide_eq_true c15
             clear c15
             by_cases c16 : (ji14) < (x7_3.length : Int)
             ·rw [if_pos c16] at H
              have c16b0 : decide ((ji14) < (x7_3.length : Int)) = true := decide_eq_true c16
              clear c16
              by_cases c17 : 0 ≤ x8_2
              ·rw [if_pos c17] at H
               have c17b0 : decide (0 ≤ x8_2) = true := decide_eq_true c17
               clear c17
               by_cases c18 : x8_2 < (l1.length : Int)
               ·rw [if_pos c18] at H
                have c18b0 : decide (x8_2 < (l1.length : Int)) = true := decide_eq_true c18
                clear c18
                by_cases c19 : 0 ≤ x9_3
                ·rw [if_pos c19] at H
                 have c19b0 : decide (0 ≤ x9_3) = true := decide_eq_true c19
                 clear c19
                 replace H := Option.bind_eq_some_iff.mp H
                 obtain ⟨t168,A200,H⟩ := H
                 try dsimp only at H
                 have A20 := am A200
                 clear A200
                 replace H := Option.bind_eq_some_iff.mp H
                 obtain ⟨t169,A210,H⟩ := H
                 try dsimp only at H
                 have A21 := am A210
                 clear A210
                 obtain ⟨y170,hy170⟩ : ∃ y_ : List Int,y_ = (x7_3.set ((ji14) : Int).toNat t169) := ⟨_,rfl⟩
                 replace H : (privityref04_Mul.l1 k3 a0 l1 l2 y170 x8_2 (wrap64 (x9_3 + 1))) = some r := by first|(rw [hy170];with_reducible exact H)|(have H2_ := (Option.bind_some _ _).symm.trans H;rw [hy170];with_reducible exact H2_)|(have H2_ := (Option.bind_some _ _).symm.trans H;with_reducible exact H2_)|with_reducible exact H|(rw [hy170];exact H)|exact H
                 have Ny170 := am hy170
                 clear hy170
                 have H' := am H
                 clear H
                 try go_wp2
                 have n0_ := am (Kd.R_drew HO_7.out)
                 have n1_ := am (below_drew1 HB.out)
                 clear HO_7
                 clear HB
                 have HO_7 := n0_
                 have HB := n1_
                 clear n0_ n1_
                 obtain ⟨Ao24,co24,eo24⟩ := Kd.R_slice HO_7.out
                 (first|subst eo24|(injection eo24 with f1_ f2_ f3_;have f4_ := f1_.symm;have f5_ := f3_.symm;clear f1_ f2_ f3_;subst f4_;subst f5_))
                 have p165 : 0 ≤ ((ji14) : Int) := od
                 have q165 : (ji14) < (x7_3.length : Int) := od
                 obtain ⟨ad165,e165,hx165_0⟩ := Kd.at_int (Kd.R_reads' HO_7.out).2.2 (ji14) p165 q165
                 cases e165
                 replace p165 := eq_true p165
                 replace q165 := eq_true q165
                 have p166 : 0 ≤ (x8_2 : Int) := od
                 have q166 : x8_2 < (l1.length : Int) := od
                 obtain ⟨ad166,e166,hx166_0⟩ := Kd.at_int HR1.out x8_2 p166 q166
                 have hw166_0 := hx166_0
                 cases e166
                 replace hx166_0 := (HB.out.cell (World.block_lt_of_cell? w _ hx166_0)).trans hx166_0
                 replace p166 := eq_true p166
                 replace q166 := eq_true q166
                 have p167 : 0 ≤ (x9_3 : Int) := od
                 have q167 : x9_3 < (l2.length : Int) := od
                 obtain ⟨ad167,e167,hx167_0⟩ := Kd.at_int HR2.out x9_3 p167 q167
                 have hw167_0 := hx167_0
                 cases e167
                 replace hx167_0 := (HB.out.cell (World.block_lt_of_cell? w _ hx167_0)).trans hx167_0
                 replace p167 := eq_true p167
                 replace q167 := eq_true q167
                 refine start_ (n := 24) (S := fun w' => w'.cell? (ad165.add ((ji14)).toNat) = some (.int .u64 (rd x7_3 (ji14))) ∧ w'.cell? (ad166.add (x8_2).toNat) = some (.int .u64 (rd l1 x8_2)) ∧ w'.cell? (ad167.add (x9_3).toNat) = some (.int .u64 (rd l2 x9_3))) (ds := [23]) (bz 24 0) (by kernel_rfl) rfl rfl ⟨hx165_0,((HB.out.cell (World.block_lt_of_cell? w _ hw166_0)).trans hw166_0),((HB.out.cell (World.block_lt_of_cell? w _ hw167_0)).trans hw167_0)⟩ (fun hHeld => ?_);refine with_tabW privityref04_Mul.tab10 privityref04_Mul.bits10 (fun HT_ HW_ => ?_)
                 generalize wr.drew = w23 at HO_7 HB hx165_0 hx166_0 hx167_0 hHeld ⊢
                 refine pk 0 37 (bz 24 1) HT_ ?_
                 refine pk 1 38 (bz 24 3) HT_ ?_
                 refine pk 2 39 (bz 24 7) HT_ ?_
                 refine pk 3 40 (bz 24 15) HT_ ?_
                 refine pk 4 41 (bz 24 31) HT_ ?_
                 refine pk 5 42 (bz 24 63) HT_ ?_
                 refine pk 6 43 (bz 24 127) HT_ ?_
                 refine pk 7 44 (bz 24 255) HT_ ?_
                 refine pk 8 45 (bz 24 511) HT_ ?_
                 refine pk 9 46 (bz 24 1023) HT_ ?_
                 refine pk 11 48 (bz 24 3071) HT_ ?_
                 refine pk 12 49 (bz 24 7167) HT_ ?_
                 refine pk 13 50 (bz 24 15359) HT_ ?_
                 refine pk 14 51 (bz 24 31743) HT_ ?_
                 refine pk 16 53 (bz 24 97279) HT_ ?_
                 refine pk 17 54 (bz 24 228351) HT_ ?_
                 refine pk 18 55 (bz 24 490495) HT_ ?_
                 refine tk 10 47 (bz 24 491519) HT_ HW_ hHeld ?_
                 refine tk 15 52 (bz 24 524287) HT_ HW_ hHeld ?_
                 refine tk 19 56 (bz 24 1048575) HT_ HW_ hHeld ?_
                 refine on 20 57 (bz 24 2097151) HT_ (fun K hK => ?_)
                 refine goes_ Try.func78 (by kernel_rfl) rfl #[.int .u64 a0,.int .u64 (rd l1 x8_2),.int .u64 (rd l2 x9_3)] (by rfl) rfl rfl (by (try simp only [List.map_toArray,List.map_cons,List.map_nil]);first|done|rfl|(simp only [List.length_drop,List.length_take];rfl)) ?_
                 with_reducible refine (privityref01_Mul.calls k3 a0 (rd l1 x8_2) (rd l2 x9_3) t168 _ A20.out).mono ?_
                 rintro e w' ⟨rfl,⟨nd,rfl⟩⟩
                 refine ⟨_,rfl,?_⟩
                 refine hK.out _ _ ⟨hHeld.1,((HB.out.cell (World.block_lt_of_cell? w _ hw166_0)).trans hw166_0),((HB.out.cell (World.block_lt_of_cell? w _ hw167_0)).trans hw167_0)⟩ (fun hHeld => ?_)
                 clear hK K
                 refine nm 57 ?_
                 refine on 21 58 (bz 24 4194303) HT_ (fun K hK => ?_)
                 refine goes_ Try.func77 (by kernel_rfl) rfl #[.int .u64 a0,.int .u64 (rd x7_3 (ji14)),.int .u64 t168] (by rfl) rfl rfl (by (try simp only [List.map_toArray,List.map_cons,List.map_nil]);first|done|(simp only [hji14];rfl)|rfl|(simp only [List.length_drop,List.length_take];rfl)) ?_
                 with_reducible refine (privityref01_Add.calls a0 (rd x7_3 (ji14)) t168 t169 _ A21.out).mono ?_
                 rintro e w' ⟨rfl,⟨nd,rfl⟩⟩
                 refine ⟨_,rfl,?_⟩
                 have p22 : 0 ≤ ((ji14) : Int) := od
                 have q22 : ((ji14) : Int) < ((x7_3.length : Int) : Int) := od
                 obtain ⟨go22,co22,eo22,gb22,gl22,cl22,HG22⟩ := Kd.R_form HO_7.out (by omega)
                 (first|cases eo22|(injection eo22 with ea_ en_ ec_;(first|subst ea_|(injection ea_ with ea_;subst ea_));subst ec_;clear en_))
                 have GB22 := am gb22
                 have GG22 := am HG22
                 clear gb22 gl22 HG22
                 (first|simp only [add_plain] at hx165_0|skip)
                 obtain ⟨hx22_0,hf22_0⟩ := Kd.R_celln 0 HO_7.out ((ji14) : Int) p22 q22
                 replace p22 := eq_true p22
                 replace q22 := eq_true q22
                 have HP25 := Kd.R_putn HO_7.out ((ji14) : Int) t169
                 rw [← Ny170.out] at HP25
                 have HQ25 := am HP25
                 clear HP25
                 refine hK.out _ _ ⟨hHeld.1,((HB.out.cell (World.block_lt_of_cell? w _ hw166_0)).trans hw166_0),((HB.out.cell (World.block_lt_of_cell? w _ hw167_0)).trans hw167_0)⟩ (fun hHeld => ?_)
                 clear hK K
                 refine nm 58 ?_
                 refine pk 22 59 (bz 24 8388607) HT_ ?_
                 refine last_ (i := 23) (N := none) (bz 24 16777215) rfl rfl (one_of HT_.out (by kernel_rfl)) (by decide) (fun K hK => ?_)
                 refine skip_ (w1 := ?_) (by rfl) rfl ?_ ?_
                 rotate_left
                 ·go_simp
                  rfl
                 refine hK.out _ _ ?_
                 clear hK K
                 refine done_ (done_of HT_.out (by kernel_rfl)) ?_
                 try go_wp2
                 go_roundg k3
                 case measure => have := HJ3.out;have := HK2.out;have := HK3.out;omega
                 case rel => exact ⟨(y170),(wrap64 (x9_3 + 1)),(by first|rfl|(simp;done)|(simp [*];done)),H',⟨by have := HJ3.out;have := HK2.out;have := HK3.out;omega⟩,⟨by (with_reducible repeat (first|apply Kd.R_alloc|apply Kd.R_drewN|apply Kd.R_drew));exact HQ25.out⟩,⟨by repeat (first|(with_reducible first|exact HB.out|apply below_alloc|apply pw_below_drewN|apply below_drew1|refine below_set ?_ GB22.out)|exact HB.out)⟩⟩
                ·rw [if_neg c19] at H
                 exact absurd H (by simp)
               ·rw [if_neg c18] at H
                exact absurd H (by simp)
              ·rw [if_neg c17] at H
               exact absurd H (by simp)
             ·rw [if_neg c16] at H
              exact absurd H (by simp)
            ·rw [if_neg c15] at H
             exact absurd H (by simp)
           ·rw [if_neg c13] at H
            have c13b0 : decide (x9_3 < (l2.length : Int)) = false := decide_eq_false c13
            clear c13
            have H' := am H
            clear H
            go_wp2
            go_roundg k3
            case measure => have := HJ3.out;have := HK2.out;have := HK3.out;omega
            case rel => exact ⟨(x7_3),(wrap64 (x8_2 + 1)),(by first|rfl|(simp;done)|(simp [*];done)),H',⟨by have := HJ3.out;have := HK2.out;have := HK3.out;omega⟩,⟨by (with_reducible repeat (first|apply Kd.R_alloc|apply Kd.R_drewN|apply Kd.R_drew));exact HO_7.out⟩,⟨bb HB⟩⟩
        ·rw [if_neg c12] at H
         have c12b0 : decide (x8_2 < (l1.length : Int)) = false := decide_eq_false c12
         clear c12
         replace H := Option.bind_eq_some_iff.mp H
         obtain ⟨t162,A260,H⟩ := H
         try dsimp only at H
         have A26 := am A260
         clear A260
         obtain rfl := Option.some.inj H
         obtain ⟨Ao27,co27,eo27⟩ := Kd.R_slice HO_7.out
         subst eo27
         go_wp2_with (first|((with_reducible refine gate_callee (f := 97) rfl ?_);refine goesL_ (some 61) rfl rfl Try.func97 (by kernel_rfl) rfl #[.slice Ao27 x7_2.length co27] rfl (by (try simp only [List.map_toArray,List.map_cons,List.map_nil]);first|done|rfl|(simp only [List.length_drop,List.length_take];rfl)) ?_;(with_reducible refine (privityref04_Trim.calls k2 _ _ x7_2 t162 _ ?side1 ?side2 A26.out).mono ?_);(case side1 => exact cr HO_7);(case side2 => exact (Kd.R_reads' HO_7.out).2.1);rintro e w28 ⟨v163,rfl,ho0,hb⟩;refine ⟨_,rfl,?_⟩;have n0_ := am (Kd.R_elder' (rr HO_7) (Kd.R_base ho0) hb);have n1_ := am (Kd.R_lower (Kd.R_new' ho0 (Kd.R_lt (rr HO_7))) (below_size (bb HB)));have n2_ := am (below_step (bb HB) hb);clear HO_7 HB;have HO_7 := n0_;have HO164 := n1_;have HB := n2_;clear n0_ n1_ n2_;(try clear hb);(try clear hb2);(try clear hk);(try clear hi);(try clear ho0)))
         go_ret
         exact ⟨_,by first|rfl|(simp [errW_none,errW_some] <;> rfl)|(simp only [← hji7];first|rfl|(simp [errW_none,errW_some] <;> rfl))|(simp [*,errW_none,errW_some] <;> rfl),by (with_reducible repeat (first|apply Kd.R_alloc|apply Kd.R_drewN|apply Kd.R_drew));exact Kd.R_mono HO164.out (fun _ hk => trivial),bb HB⟩
     ·rw [if_neg c9] at H
      exact absurd H (by simp)
    ·rw [if_neg c8] at H
     exact absurd H (by simp)
def privityref01_Neg.f (a0 : Int) (a1 : Int) : Option (Int) := if a0 = 0 then (none) else (some (Int.tmod (IntKind.u64.wrap (a0 - a1)) a0))
set_option maxHeartbeats 8000000 in
set_option maxRecDepth 100000 in
theorem privityref01_Neg.calls (a0 : Int) (a1 : Int) (r : Int) (w : World) (h : privityref01_Neg.f a0 a1 = some r) :
  Calls Try.prog 93 #[.int .u64 a0,.int .u64 a1] w fun e w' => e = .returned (.int .u64 r) ∧ Drawn0 w w' := by
 have H : (if a0 = 0 then (none) else (some (Int.tmod (IntKind.u64.wrap (a0 - a1)) a0))) = some r := h
 clear h
 by_cases c3 : a0 = 0
 ·rw [if_pos c3] at H
  exact absurd H (by simp)
 ·rw [if_neg c3] at H
  have c3b0 : (a0 == 0) = false := beq_eq_false_iff_ne.mpr c3
  have c3b1 : (a0 != 0) = true := bne_iff_ne.mpr c3
  obtain rfl := Option.some.inj H
  go_enter Try.func93,Try.ntmps93
  go_wp2
  go_ret
  exact ⟨by first|rfl|(simp;done)|(simp [*];done),by repeat (first|exact Drawn0.refl _|apply Drawn0.step)⟩
def privityref05_base.l0 : Nat → Int → List Int → Int → List Int → Int → Option (List Int)
 | 0,_,_,_,_,_ => none
 | k + 1,x0,x1,x2,x7,x8 => if x8 < (x1.length : Int) then (if x8 = x2 then (privityref05_base.l0 k x0 x1 x2 x7 (wrap64 (x8 + 1))) else (if 0 ≤ x2 then (if x2 < (x1.length : Int) then (if 0 ≤ x8 then ((privityref01_Sub.f x0 (rd x1 x2) (rd x1 x8)).bind fun t176 => ((privityref01_Inverse.f k x0 t176).bind fun bt177 => ((privityref01_Neg.f x0 (rd x1 x8)).bind fun t180 => ((privityref01_Mul.f k x0 t180 bt177.1).bind fun t181 => ((privityref04_Mul.f k x0 x7 (([t181,bt177.1] : List Int))).bind fun t185 => (privityref05_base.l0 k x0 x1 x2 t185 (wrap64 (x8 + 1)))))))) else (none)) else (none)) else (none))) else (some x7)
def privityref05_base.f (k : Nat) (a0 : Int) (l1 : List Int) (a2 : Int) : Option (List Int) := privityref05_base.l0 k a0 l1 a2 (([1] : List Int)) 0
set_option maxHeartbeats 8000000 in
set_option maxRecDepth 100000 in
theorem privityref05_base.calls (k : Nat) (a0 : Int) (A1 : Option Addr) (c1 : Nat) (l1 : List Int) (a2 : Int) (r : List Int) (w : World) (hr1 : Kd.C (Kd.int .u64) w A1 l1.length l1) (hc1 : l1.length ≤ c1) (h : privityref05_base.f k a0 l1 a2 = some r) :
  Calls Try.prog 65 #[.int .u64 a0,.slice A1 l1.length c1,.int .i64 a2] w fun e w' => ∃ v0_ : Value,e = .returned (v0_) ∧ Kd.R (Kd.int .u64) 22 w' w.heap.size (fun _ => True) v0_ r ∧ Below w.heap.size w w' := by
 have HR1 := am hr1
 have HC1 := am hc1
 clear hr1 hc1
 have HB := am (Below.refl w.heap.size w)
 have H : (privityref05_base.l0 k a0 l1 a2 (([1] : List Int)) 0) = some r := h
 clear h
 obtain ⟨y171,hy171⟩ : ∃ y_ : List Int,y_ = (([1] : List Int)) := ⟨_,rfl⟩
 replace H : (privityref05_base.l0 k a0 l1 a2 y171 0) = some r := by first|(rw [hy171];with_reducible exact H)|(have H2_ := (Option.bind_some _ _).symm.trans H;rw [hy171];with_reducible exact H2_)|(have H2_ := (Option.bind_some _ _).symm.trans H;with_reducible exact H2_)|with_reducible exact H|(rw [hy171];exact H)|exact H
 have Ny171 := am hy171
 clear hy171
 have H' := am H
 clear H
 go_enter Try.func65,Try.ntmps65
 go_wp2_with (first|((with_reducible refine gate_dst (N := 11) rfl ?_);refine Kd.R_lit (Kd.int .u64) _ 22 ?hg (N := 11) ?hd (xs := ([1] : List Int)) (inner := [.int .u64 1]) (ok := fun _ => True) (okp := fun _ => True) ?hr ?hp (fun _ hk => hk) trivial (Below.refl _ _) (Nat.le_refl _) (by simp) ?_;(case hd => rfl);(case hg => rfl);(case hr => first|(go_simp;done)|(go_simp;rfl));(case hp => exact (Reps.one (show Kd.M (Kd.int .u64) _ _ _ 1 [.int .u64 1] from rfl) (Reps.none _ _)));intro v172 w4 ho5 hb hg_ hnew_;clear hg_ hnew_;(first|rw [← Ny171.out] at ho5|(simp only [Int.reduceToNat] at ho5;rw [← Ny171.out] at ho5));have n0_ := am (Kd.R_lower ho5 (below_size (bb HB)));have n1_ := am (below_step (bb HB) hb);clear HB;have HO173 := n0_;have HB := n1_;clear n0_ n1_;clear hb ho5))
 repeat (go_quiet (first|((with_reducible refine gate_dst (N := 11) rfl ?_);refine Kd.R_lit (Kd.int .u64) _ 22 ?hg (N := 11) ?hd (xs := ([1] : List Int)) (inner := [.int .u64 1]) (ok := fun _ => True) (okp := fun _ => True) ?hr ?hp (fun _ hk => hk) trivial (Below.refl _ _) (Nat.le_refl _) (by simp) ?_;(case hd => rfl);(case hg => rfl);(case hr => first|(go_simp;done)|(go_simp;rfl));(case hp => exact (Reps.one (show Kd.M (Kd.int .u64) _ _ _ 1 [.int .u64 1] from rfl) (Reps.none _ _)));intro v172 w4 ho5 hb hg_ hnew_;clear hg_ hnew_;(first|rw [← Ny171.out] at ho5|(simp only [Int.reduceToNat] at ho5;rw [← Ny171.out] at ho5));have n0_ := am (Kd.R_lower ho5 (below_size (bb HB)));have n1_ := am (below_step (bb HB) hb);clear HB;have HO173 := n0_;have HB := n1_;clear n0_ n1_;clear hb ho5));try go_wp2_with (first|((with_reducible refine gate_dst (N := 11) rfl ?_);refine Kd.R_lit (Kd.int .u64) _ 22 ?hg (N := 11) ?hd (xs := ([1] : List Int)) (inner := [.int .u64 1]) (ok := fun _ => True) (okp := fun _ => True) ?hr ?hp (fun _ hk => hk) trivial (Below.refl _ _) (Nat.le_refl _) (by simp) ?_;(case hd => rfl);(case hg => rfl);(case hr => first|(go_simp;done)|(go_simp;rfl));(case hp => exact (Reps.one (show Kd.M (Kd.int .u64) _ _ _ 1 [.int .u64 1] from rfl) (Reps.none _ _)));intro v172 w4 ho5 hb hg_ hnew_;clear hg_ hnew_;(first|rw [← Ny171.out] at ho5|(simp only [Int.reduceToNat] at ho5;rw [← Ny171.out] at ho5));have n0_ := am (Kd.R_lower ho5 (below_size (bb HB)));have n1_ := am (below_step (bb HB) hb);clear HB;have HO173 := n0_;have HB := n1_;clear n0_ n1_;clear hb ho5)))
 go_loopg [7,8] k (fun kq v7 v8 w' => ∃ (x7_1 : List Int) (x8_1 : Int),v8 = .int .i64 x8_1 ∧ Aside0 (privityref05_base.l0 kq a0 l1 a2 x7_1 x8_1 = some r) ∧ Aside0 (kq ≤ k) ∧ Aside0 (Kd.R (Kd.int .u64) 22 w' w.heap.size (fun _ => True) v7 x7_1) ∧ Aside0 (Below w.heap.size w w'))
 case atStart => exact ⟨(y171),(0),(by first|rfl|(simp;done)|(simp [*];done)),H',⟨Nat.le_refl _⟩,⟨by (with_reducible repeat (first|apply Kd.R_alloc|apply Kd.R_drewN|apply Kd.R_drew));exact HO173.out⟩,⟨bb HB⟩⟩
 case round =>
  clear H'
  try clear c1
  try clear p2
  obtain ⟨x7_1,x8_1,rfl,HA,HK1,HO_7,HB⟩ := hrel
  cases gk with
  | zero => exact absurd HA.out (by simp [privityref05_base.l0])
  | succ k1 =>
   have H := HA.out
   clear HA
   simp only [privityref05_base.l0] at H
   by_cases c6 : x8_1 < (l1.length : Int)
   ·rw [if_pos c6] at H
    have c6b0 : decide (x8_1 < (l1.length : Int)) = true := decide_eq_true c6
    clear c6
    by_cases c7 : x8_1 = a2
    ·rw [if_pos c7] at H
     have c7b0 : (x8_1 == a2) = true := beq_iff_eq.mpr c7
     have c7b1 : (x8_1 != a2) = false := bne_eq_false_iff_eq.mpr c7
     clear c7
     have H' := am H
     clear H
     go_wp2
     repeat (go_quiet (fail);try go_wp2)
     go_roundg k1
     case measure => have := HK1.out;omega
     case rel => exact ⟨(x7_1),(wrap64 (x8_1 + 1)),(by first|rfl|(simp;done)|(simp [*];done)),H',⟨by have := HK1.out;omega⟩,⟨by (with_reducible repeat (first|apply Kd.R_alloc|apply Kd.R_drewN|apply Kd.R_drew));exact HO_7.out⟩,⟨bb HB⟩⟩
    ·rw [if_neg c7] at H
     have c7b0 : (x8_1 == a2) = false := beq_eq_false_iff_ne.mpr c7
     have c7b1 : (x8_1 != a2) = true := bne_iff_ne.mpr c7
     by_cases c8 : 0 ≤ a2
     ·rw [if_pos c8] at H
      have c8b0 : decide (0 ≤ a2) = true := decide_eq_true c8
      clear c8
      by_cases c9 : a2 < (l1.length : Int)
      ·rw [if_pos c9] at H
       have c9b0 : decide (a2 < (l1.length : Int)) = true := decide_eq_true c9
       clear c9
       by_cases c10 : 0 ≤ x8_1
       ·rw [if_pos c10] at H
        have c10b0 : decide (0 ≤ x8_1) = true := decide_eq_true c10
        clear c10
        replace H := Option.bind_eq_some_iff.mp H
        obtain ⟨t176,A110,H⟩ := H
        try dsimp only at H
        have A11 := am A110
        clear A110
        replace H := Option.bind_eq_some_iff.mp H
        obtain ⟨⟨t177,t178⟩,A120,H⟩ := H
        try dsimp only at H
        have A12 := am A120
        clear A120
        replace H := Option.bind_eq_some_iff.mp H
        obtain ⟨t180,A130,H⟩ := H
        try dsimp only at H
        have A13 := am A130
        clear A130
        replace H := Option.bind_eq_some_iff.mp H
        obtain ⟨t181,A140,H⟩ := H
        try dsimp only at H
        have A14 := am A140
        clear A140
        obtain ⟨y182,hy182⟩ : ∃ y_ : List Int,y_ = (([t181,t177] : List Int)) := ⟨_,rfl⟩
        replace H : ((privityref04_Mul.f k1 a0 x7_1 y182).bind fun t185 => (privityref05_base.l0 k1 a0 l1 a2 t185 (wrap64 (x8_1 + 1)))) = some r := by first|(rw [hy182];with_reducible exact H)|(have H2_ := (Option.bind_some _ _).symm.trans H;rw [hy182];with_reducible exact H2_)|(have H2_ := (Option.bind_some _ _).symm.trans H;with_reducible exact H2_)|with_reducible exact H|(rw [hy182];exact H)|exact H
        have Ny182 := am hy182
        clear hy182
        replace H := Option.bind_eq_some_iff.mp H
        obtain ⟨t185,A150,H⟩ := H
        try dsimp only at H
        have A15 := am A150
        clear A150
        have H' := am H
        clear H
        have p174 : 0 ≤ (a2 : Int) := od
        have q174 : a2 < (l1.length : Int) := od
        obtain ⟨ad174,e174,hx174_0⟩ := Kd.at_int HR1.out a2 p174 q174
        cases e174
        replace hx174_0 := (HB.out.cell (World.block_lt_of_cell? w _ hx174_0)).trans hx174_0
        replace p174 := eq_true p174
        replace q174 := eq_true q174
        have p175 : 0 ≤ (x8_1 : Int) := od
        have q175 : x8_1 < (l1.length : Int) := od
        obtain ⟨ad175,e175,hx175_0⟩ := Kd.at_int HR1.out x8_1 p175 q175
        obtain rfl : ad174 = ad175 := (by injection e175)
        replace hx175_0 := (HB.out.cell (World.block_lt_of_cell? w _ hx175_0)).trans hx175_0
        replace p175 := eq_true p175
        replace q175 := eq_true q175
        go_wp2_with (first|(go_at_call 48;(with_reducible refine (privityref01_Sub.calls a0 (rd l1 a2) (rd l1 x8_1) t176 _ A11.out).mono ?_);rintro e w' ⟨rfl,⟨nd,rfl⟩⟩;(try first|exact ⟨rfl,_,World.drewN_drewN _ _ _⟩|exact ⟨rfl,_,Eq.trans (World.drewN_drewN _ _ _) (congrArg (World.drewN _) (Nat.add_assoc _ _ _))⟩))|(go_at_call 91;(with_reducible refine (privityref01_Inverse.calls k1 a0 t176 t177 t178 _ A12.out).mono ?_);rintro e w' ⟨rfl,⟨nd,rfl⟩⟩;(try first|exact ⟨rfl,_,World.drewN_drewN _ _ _⟩|exact ⟨rfl,_,Eq.trans (World.drewN_drewN _ _ _) (congrArg (World.drewN _) (Nat.add_assoc _ _ _))⟩);have p179 : 0 ≤ (x8_1 : Int) := od;have q179 : x8_1 < (l1.length : Int) := od;obtain ⟨ad179,e179,hx179_0⟩ := Kd.at_int HR1.out x8_1 p179 q179;obtain rfl : ad174 = ad179 := (by injection e179);replace hx179_0 := (HB.out.cell (World.block_lt_of_cell? w _ hx179_0)).trans hx179_0;replace p179 := eq_true p179;replace q179 := eq_true q179)|(go_at_call 93;(with_reducible refine (privityref01_Neg.calls a0 (rd l1 x8_1) t180 _ A13.out).mono ?_);rintro e w' ⟨rfl,⟨nd,rfl⟩⟩;(try first|exact ⟨rfl,_,World.drewN_drewN _ _ _⟩|exact ⟨rfl,_,Eq.trans (World.drewN_drewN _ _ _) (congrArg (World.drewN _) (Nat.add_assoc _ _ _))⟩))|(go_at_call 78;(with_reducible refine (privityref01_Mul.calls k1 a0 t180 t177 t181 _ A14.out).mono ?_);rintro e w' ⟨rfl,⟨nd,rfl⟩⟩;(try first|exact ⟨rfl,_,World.drewN_drewN _ _ _⟩|exact ⟨rfl,_,Eq.trans (World.drewN_drewN _ _ _) (congrArg (World.drewN _) (Nat.add_assoc _ _ _))⟩))|((with_reducible refine gate_dst (N := 48) rfl ?_);refine Kd.R_lit (Kd.int .u64) _ 22 ?hg (N := 48) ?hd (xs := ([t181,t177] : List Int)) (inner := [.int .u64 t181,.int .u64 t177]) (ok := fun _ => True) (okp := fun _ => True) ?hr ?hp (fun _ hk => hk) trivial (Below.refl _ _) (Nat.le_refl _) (by simp) ?_;(case hd => rfl);(case hg => rfl);(case hr => first|(go_simp;done)|(go_simp;rfl));(case hp => exact (Reps.one (show Kd.M (Kd.int .u64) _ _ _ t181 [.int .u64 t181] from rfl) (Reps.one (show Kd.M (Kd.int .u64) _ _ _ t177 [.int .u64 t177] from rfl) (Reps.none _ _))));intro v183 w16 ho17 hb hg_ hnew_;clear hg_ hnew_;(first|rw [← Ny182.out] at ho17|(simp only [Int.reduceToNat] at ho17;rw [← Ny182.out] at ho17));have n0_ := am (Kd.R_elder' (rr HO_7) (Kd.R_base ho17) hb);have n1_ := am (Kd.R_lower (Kd.R_new' ho17 (Kd.R_lt (rr HO_7))) (below_size (bb HB)));have n2_ := am (below_step (bb HB) hb);clear HO_7 HB;have HO_7 := n0_;have HO184 := n1_;have HB := n2_;clear n0_ n1_ n2_;clear hb ho17;obtain ⟨Ao18,co18,eo18⟩ := Kd.R_slice HO_7.out;subst eo18;obtain ⟨Ao19,co19,eo19⟩ := Kd.R_slice HO184.out;subst eo19)|(go_at_call 92;(with_reducible refine (privityref04_Mul.calls k1 a0 _ _ x7_1 _ _ y182 t185 _ ?side1 ?side2 ?side3 ?side4 A15.out).mono ?_);(case side1 => exact cr HO_7);(case side2 => exact (Kd.R_reads' HO_7.out).2.1);(case side3 => exact cr HO184);(case side4 => exact (Kd.R_reads' HO184.out).2.1);rintro e w20 ⟨v186,rfl,ho0,hb⟩;have n0_ := am (Kd.R_elder' (rr HO_7) (Kd.R_base ho0) hb);have n1_ := am (Kd.R_elder' (rr HO184) (Kd.R_base ho0) hb);have n2_ := am (Kd.R_lower (Kd.R_new' (Kd.R_new' ho0 (Kd.R_lt (rr HO_7))) (Kd.R_lt (rr HO184))) (below_size (bb HB)));have n3_ := am (below_step (bb HB) hb);clear HO_7 HO184 HB;have HO_7 := n0_;have HO184 := n1_;have HO187 := n2_;have HB := n3_;clear n0_ n1_ n2_ n3_;(try clear hb);(try clear hb2);(try clear hk);(try clear hi);(try clear ho0)))
        repeat (go_quiet (first|(go_at_call 48;(with_reducible refine (privityref01_Sub.calls a0 (rd l1 a2) (rd l1 x8_1) t176 _ A11.out).mono ?_);rintro e w' ⟨rfl,⟨nd,rfl⟩⟩;(try first|exact ⟨rfl,_,World.drewN_drewN _ _ _⟩|exact ⟨rfl,_,Eq.trans (World.drewN_drewN _ _ _) (congrArg (World.drewN _) (Nat.add_assoc _ _ _))⟩))|(go_at_call 91;(with_reducible refine (privityref01_Inverse.calls k1 a0 t176 t177 t178 _ A12.out).mono ?_);rintro e w' ⟨rfl,⟨nd,rfl⟩⟩;(try first|exact ⟨rfl,_,World.drewN_drewN _ _ _⟩|exact ⟨rfl,_,Eq.trans (World.drewN_drewN _ _ _) (congrArg (World.drewN _) (Nat.add_assoc _ _ _))⟩);have p179 : 0 ≤ (x8_1 : Int) := od;have q179 : x8_1 < (l1.length : Int) := od;obtain ⟨ad179,e179,hx179_0⟩ := Kd.at_int HR1.out x8_1 p179 q179;obtain rfl : ad174 = ad179 := (by injection e179);replace hx179_0 := (HB.out.cell (World.block_lt_of_cell? w _ hx179_0)).trans hx179_0;replace p179 := eq_true p179;replace q179 := eq_true q179)|(go_at_call 93;(with_reducible refine (privityref01_Neg.calls a0 (rd l1 x8_1) t180 _ A13.out).mono ?_);rintro e w' ⟨rfl,⟨nd,rfl⟩⟩;(try first|exact ⟨rfl,_,World.drewN_drewN _ _ _⟩|exact ⟨rfl,_,Eq.trans (World.drewN_drewN _ _ _) (congrArg (World.drewN _) (Nat.add_assoc _ _ _))⟩))|(go_at_call 78;(with_reducible refine (privityref01_Mul.calls k1 a0 t180 t177 t181 _ A14.out).mono ?_);rintro e w' ⟨rfl,⟨nd,rfl⟩⟩;(try first|exact ⟨rfl,_,World.drewN_drewN _ _ _⟩|exact ⟨rfl,_,Eq.trans (World.drewN_drewN _ _ _) (congrArg (World.drewN _) (Nat.add_assoc _ _ _))⟩))|((with_reducible refine gate_dst (N := 48) rfl ?_);refine Kd.R_lit (Kd.int .u64) _ 22 ?hg (N := 48) ?hd (xs := ([t181,t177] : List Int)) (inner := [.int .u64 t181,.int .u64 t177]) (ok := fun _ => True) (okp := fun _ => True) ?hr ?hp (fun _ hk => hk) trivial (Below.refl _ _) (Nat.le_refl _) (by simp) ?_;(case hd => rfl);(case hg => rfl);(case hr => first|(go_simp;done)|(go_simp;rfl));(case hp => exact (Reps.one (show Kd.M (Kd.int .u64) _ _ _ t181 [.int .u64 t181] from rfl) (Reps.one (show Kd.M (Kd.int .u64) _ _ _ t177 [.int .u64 t177] from rfl) (Reps.none _ _))));intro v183 w16 ho17 hb hg_ hnew_;clear hg_ hnew_;(first|rw [← Ny182.out] at ho17|(simp only [Int.reduceToNat] at ho17;rw [← Ny182.out] at ho17));have n0_ := am (Kd.R_elder' (rr HO_7) (Kd.R_base ho17) hb);have n1_ := am (Kd.R_lower (Kd.R_new' ho17 (Kd.R_lt (rr HO_7))) (below_size (bb HB)));have n2_ := am (below_step (bb HB) hb);clear HO_7 HB;have HO_7 := n0_;have HO184 := n1_;have HB := n2_;clear n0_ n1_ n2_;clear hb ho17;obtain ⟨Ao18,co18,eo18⟩ := Kd.R_slice HO_7.out;subst eo18;obtain ⟨Ao19,co19,eo19⟩ := Kd.R_slice HO184.out;subst eo19)|(go_at_call 92;(with_reducible refine (privityref04_Mul.calls k1 a0 _ _ x7_1 _ _ y182 t185 _ ?side1 ?side2 ?side3 ?side4 A15.out).mono ?_);(case side1 => exact cr HO_7);(case side2 => exact (Kd.R_reads' HO_7.out).2.1);(case side3 => exact cr HO184);(case side4 => exact (Kd.R_reads' HO184.out).2.1);rintro e w20 ⟨v186,rfl,ho0,hb⟩;have n0_ := am (Kd.R_elder' (rr HO_7) (Kd.R_base ho0) hb);have n1_ := am (Kd.R_elder' (rr HO184) (Kd.R_base ho0) hb);have n2_ := am (Kd.R_lower (Kd.R_new' (Kd.R_new' ho0 (Kd.R_lt (rr HO_7))) (Kd.R_lt (rr HO184))) (below_size (bb HB)));have n3_ := am (below_step (bb HB) hb);clear HO_7 HO184 HB;have HO_7 := n0_;have HO184 := n1_;have HO187 := n2_;have HB := n3_;clear n0_ n1_ n2_ n3_;(try clear hb);(try clear hb2);(try clear hk);(try clear hi);(try clear ho0)));try go_wp2_with (first|(go_at_call 48;(with_reducible refine (privityref01_Sub.calls a0 (rd l1 a2) (rd l1 x8_1) t176 _ A11.out).mono ?_);rintro e w' ⟨rfl,⟨nd,rfl⟩⟩;(try first|exact ⟨rfl,_,World.drewN_drewN _ _ _⟩|exact ⟨rfl,_,Eq.trans (World.drewN_drewN _ _ _) (congrArg (World.drewN _) (Nat.add_assoc _ _ _))⟩))|(go_at_call 91;(with_reducible refine (privityref01_Inverse.calls k1 a0 t176 t177 t178 _ A12.out).mono ?_);rintro e w' ⟨rfl,⟨nd,rfl⟩⟩;(try first|exact ⟨rfl,_,World.drewN_drewN _ _ _⟩|exact ⟨rfl,_,Eq.trans (World.drewN_drewN _ _ _) (congrArg (World.drewN _) (Nat.add_assoc _ _ _))⟩);have p179 : 0 ≤ (x8_1 : Int) := od;have q179 : x8_1 < (l1.length : Int) := od;obtain ⟨ad179,e179,hx179_0⟩ := Kd.at_int HR1.out x8_1 p179 q179;obtain rfl : ad174 = ad179 := (by injection e179);replace hx179_0 := (HB.out.cell (World.block_lt_of_cell? w _ hx179_0)).trans hx179_0;replace p179 := eq_true p179;replace q179 := eq_true q179)|(go_at_call 93;(with_reducible refine (privityref01_Neg.calls a0 (rd l1 x8_1) t180 _ A13.out).mono ?_);rintro e w' ⟨rfl,⟨nd,rfl⟩⟩;(try first|exact ⟨rfl,_,World.drewN_drewN _ _ _⟩|exact ⟨rfl,_,Eq.trans (World.drewN_drewN _ _ _) (congrArg (World.drewN _) (Nat.add_assoc _ _ _))⟩))|(go_at_call 78;(with_reducible refine (privityref01_Mul.calls k1 a0 t180 t177 t181 _ A14.out).mono ?_);rintro e w' ⟨rfl,⟨nd,rfl⟩⟩;(try first|exact ⟨rfl,_,World.drewN_drewN _ _ _⟩|exact ⟨rfl,_,Eq.trans (World.drewN_drewN _ _ _) (congrArg (World.drewN _) (Nat.add_assoc _ _ _))⟩))|((with_reducible refine gate_dst (N := 48) rfl ?_);refine Kd.R_lit (Kd.int .u64) _ 22 ?hg (N := 48) ?hd (xs := ([t181,t177] : List Int)) (inner := [.int .u64 t181,.int .u64 t177]) (ok := fun _ => True) (okp := fun _ => True) ?hr ?hp (fun _ hk => hk) trivial (Below.refl _ _) (Nat.le_refl _) (by simp) ?_;(case hd => rfl);(case hg => rfl);(case hr => first|(go_simp;done)|(go_simp;rfl));(case hp => exact (Reps.one (show Kd.M (Kd.int .u64) _ _ _ t181 [.int .u64 t181] from rfl) (Reps.one (show Kd.M (Kd.int .u64) _ _ _ t177 [.int .u64 t177] from rfl) (Reps.none _ _))));intro v183 w16 ho17 hb hg_ hnew_;clear hg_ hnew_;(first|rw [← Ny182.out] at ho17|(simp only [Int.reduceToNat] at ho17;rw [← Ny182.out] at ho17));have n0_ := am (Kd.R_elder' (rr HO_7) (Kd.R_base ho17) hb);have n1_ := am (Kd.R_lower (Kd.R_new' ho17 (Kd.R_lt (rr HO_7))) (below_size (bb HB)));have n2_ := am (below_step (bb HB) hb);clear HO_7 HB;have HO_7 := n0_;have HO184 := n1_;have HB := n2_;clear n0_ n1_ n2_;clear hb ho17;obtain ⟨Ao18,co18,eo18⟩ := Kd.R_slice HO_7.out;subst eo18;obtain ⟨Ao19,co19,eo19⟩ := Kd.R_slice HO184.out;subst eo19)|(go_at_call 92;(with_reducible refine (privityref04_Mul.calls k1 a0 _ _ x7_1 _ _ y182 t185 _ ?side1 ?side2 ?side3 ?side4 A15.out).mono ?_);(case side1 => exact cr HO_7);(case side2 => exact (Kd.R_reads' HO_7.out).2.1);(case side3 => exact cr HO184);(case side4 => exact (Kd.R_reads' HO184.out).2.1);rintro e w20 ⟨v186,rfl,ho0,hb⟩;have n0_ := am (Kd.R_elder' (rr HO_7) (Kd.R_base ho0) hb);have n1_ := am (Kd.R_elder' (rr HO184) (Kd.R_base ho0) hb);have n2_ := am (Kd.R_lower (Kd.R_new' (Kd.R_new' ho0 (Kd.R_lt (rr HO_7))) (Kd.R_lt (rr HO184))) (below_size (bb HB)));have n3_ := am (below_step (bb HB) hb);clear HO_7 HO184 HB;have HO_7 := n0_;have HO184 := n1_;have HO187 := n2_;have HB := n3_;clear n0_ n1_ n2_ n3_;(try clear hb);(try clear hb2);(try clear hk);(try clear hi);(try clear ho0))))
        go_roundg k1
        case measure => have := HK1.out;omega
        case rel => exact ⟨(t185),(wrap64 (x8_1 + 1)),(by first|rfl|(simp;done)|(simp [*];done)),H',⟨by have := HK1.out;omega⟩,⟨by (with_reducible repeat (first|apply Kd.R_alloc|apply Kd.R_drewN|apply Kd.R_drew));exact Kd.R_mono HO187.out (fun _ hk => trivial)⟩,⟨bb HB⟩⟩
       ·rw [if_neg c10] at H
        exact absurd H (by simp)
      ·rw [if_neg c9] at H
       exact absurd H (by simp)
     ·rw [if_neg c8] at H
      exact absurd H (by simp)
   ·rw [if_neg c6] at H
    have c6b0 : decide (x8_1 < (l1.length : Int)) = false := decide_eq_false c6
    clear c6
    obtain rfl := Option.some.inj H
    go_wp2
    repeat (go_quiet (fail);try go_wp2)
    go_ret
    exact ⟨_,by first|rfl|(simp [errW_none,errW_some] <;> rfl)|(simp [*,errW_none,errW_some] <;> rfl),by (with_reducible repeat (first|apply Kd.R_alloc|apply Kd.R_drewN|apply Kd.R_drew));exact HO_7.out,bb HB⟩
def privityref04_Eval.l0 : Nat → Int → List Int → Int → Int → Int → Int → Option (Int)
 | 0,_,_,_,_,_,_ => none
 | k + 1,x0,x1,x2,x7,x8,x9 => if x9 < (x1.length : Int) then (if 0 ≤ x9 then ((privityref01_Mul.f k x0 (rd x1 x9) x8).bind fun t225 => ((privityref01_Add.f x0 x7 t225).bind fun t226 => ((privityref01_Mul.f k x0 x8 x2).bind fun t227 => (privityref04_Eval.l0 k x0 x1 x2 t226 t227 (wrap64 (x9 + 1)))))) else (none)) else (some x7)
def privityref04_Eval.f (k : Nat) (a0 : Int) (l1 : List Int) (a2 : Int) : Option (Int) := privityref04_Eval.l0 k a0 l1 a2 0 1 0
set_option maxHeartbeats 8000000 in
set_option maxRecDepth 100000 in
theorem privityref04_Eval.calls (k : Nat) (a0 : Int) (A1 : Option Addr) (c1 : Nat) (l1 : List Int) (a2 : Int) (r : Int) (w : World) (hr1 : Kd.C (Kd.int .u64) w A1 l1.length l1) (hc1 : l1.length ≤ c1) (h : privityref04_Eval.f k a0 l1 a2 = some r) :
  Calls Try.prog 64 #[.int .u64 a0,.slice A1 l1.length c1,.int .u64 a2] w fun e w' => e = .returned (.int .u64 r) ∧ Drawn0 w w' := by
 have HR1 := am hr1
 have HC1 := am hc1
 clear hr1 hc1
 have H : (privityref04_Eval.l0 k a0 l1 a2 0 1 0) = some r := h
 clear h
 have H' := am H
 clear H
 go_enter Try.func64,Try.ntmps64
 go_wp2
 go_loopg [7,8,9] k (fun kq v7 v8 v9 w' => ∃ (x7_1 : Int) (x8_1 : Int) (x9_1 : Int),v7 = .int .u64 x7_1 ∧ v8 = .int .u64 x8_1 ∧ v9 = .int .i64 x9_1 ∧ Aside0 (privityref04_Eval.l0 kq a0 l1 a2 x7_1 x8_1 x9_1 = some r) ∧ Aside0 (kq ≤ k) ∧ Drawn0 w w')
 case atStart => exact ⟨(0),(1),(0),(by first|rfl|(simp;done)|(simp [*];done)),(by first|rfl|(simp;done)|(simp [*];done)),(by first|rfl|(simp;done)|(simp [*];done)),H',⟨Nat.le_refl _⟩,by repeat (first|exact Drawn0.refl _|apply Drawn0.step)⟩
 case round =>
  clear H'
  try clear c1
  try clear p2
  obtain ⟨x7_1,x8_1,x9_1,rfl,rfl,rfl,HA,HK1,⟨m1,rfl⟩⟩ := hrel
  cases gk with
  | zero => exact absurd HA.out (by simp [privityref04_Eval.l0])
  | succ k1 =>
   have H := HA.out
   clear HA
   simp only [privityref04_Eval.l0] at H
   by_cases c4 : x9_1 < (l1.length : Int)
   ·rw [if_pos c4] at H
    have c4b0 : decide (x9_1 < (l1.length : Int)) = true := decide_eq_true c4
    clear c4
    by_cases c5 : 0 ≤ x9_1
    ·rw [if_pos c5] at H
     have c5b0 : decide (0 ≤ x9_1) = true := decide_eq_true c5
     clear c5
     replace H := Option.bind_eq_some_iff.mp H
     obtain ⟨t225,A60,H⟩ := H
     try dsimp only at H
     have A6 := am A60
     clear A60
     replace H := Option.bind_eq_some_iff.mp H
     obtain ⟨t226,A70,H⟩ := H
     try dsimp only at H
     have A7 := am A70
     clear A70
     replace H := Option.bind_eq_some_iff.mp H
     obtain ⟨t227,A80,H⟩ := H
     try dsimp only at H
     have A8 := am A80
     clear A80
     have H' := am H
     clear H
     have p224 : 0 ≤ (x9_1 : Int) := od
     have q224 : x9_1 < (l1.length : Int) := od
     obtain ⟨ad224,e224,hx224_0⟩ := Kd.at_int HR1.out x9_1 p224 q224
     cases e224
     replace p224 := eq_true p224
     replace q224 := eq_true q224
     go_wp2_with (first|((with_reducible refine gate_callee (f := 78) rfl ?_);refine goesL_ (some 24) rfl rfl Try.func78 (by kernel_rfl) rfl #[.int .u64 a0,.int .u64 (rd l1 x9_1),.int .u64 x8_1] rfl (by (try simp only [List.map_toArray,List.map_cons,List.map_nil]);first|done|rfl|(simp only [List.length_drop,List.length_take];rfl)) ?_;(with_reducible refine (privityref01_Mul.calls k1 a0 (rd l1 x9_1) x8_1 t225 _ A6.out).mono ?_);rintro e w' ⟨rfl,⟨nd,rfl⟩⟩;refine ⟨_,rfl,?_⟩)|((with_reducible refine gate_callee (f := 77) rfl ?_);refine goesL_ (some 25) rfl rfl Try.func77 (by kernel_rfl) rfl #[.int .u64 a0,.int .u64 x7_1,.int .u64 t225] rfl (by (try simp only [List.map_toArray,List.map_cons,List.map_nil]);first|done|rfl|(simp only [List.length_drop,List.length_take];rfl)) ?_;(with_reducible refine (privityref01_Add.calls a0 x7_1 t225 t226 _ A7.out).mono ?_);rintro e w' ⟨rfl,⟨nd,rfl⟩⟩;refine ⟨_,rfl,?_⟩)|((with_reducible refine gate_callee (f := 78) rfl ?_);refine goesL_ (some 29) rfl rfl Try.func78 (by kernel_rfl) rfl #[.int .u64 a0,.int .u64 x8_1,.int .u64 a2] rfl (by (try simp only [List.map_toArray,List.map_cons,List.map_nil]);first|done|rfl|(simp only [List.length_drop,List.length_take];rfl)) ?_;(with_reducible refine (privityref01_Mul.calls k1 a0 x8_1 a2 t227 _ A8.out).mono ?_);rintro e w' ⟨rfl,⟨nd,rfl⟩⟩;refine ⟨_,rfl,?_⟩))
     go_roundg k1
     case measure => have := HK1.out;omega
     case rel => exact ⟨(t226),(t227),(wrap64 (x9_1 + 1)),(by first|rfl|(simp;done)|(simp [*];done)),(by first|rfl|(simp;done)|(simp [*];done)),(by first|rfl|(simp;done)|(simp [*];done)),H',⟨by have := HK1.out;omega⟩,by repeat (first|exact Drawn0.refl _|apply Drawn0.step)⟩
    ·rw [if_neg c5] at H
     exact absurd H (by simp)
   ·rw [if_neg c4] at H
    have c4b0 : decide (x9_1 < (l1.length : Int)) = false := decide_eq_false c4
    clear c4
    obtain rfl := Option.some.inj H
    go_wp2
    go_ret
    exact ⟨by first|rfl|(simp;done)|(simp [*];done),by repeat (first|exact Drawn0.refl _|apply Drawn0.step)⟩
def privityref05_LagrangeWeights.l0 : Nat → Int → List Int → Int → List Int → Int → Option (List Int × Int)
 | 0,_,_,_,_,_ => none
 | k + 1,x0,x1,x2,x8,x9 => if x9 < (x1.length : Int) then ((privityref05_base.f k x0 x1 x9).bind fun t229 => ((privityref04_Eval.f k x0 t229 x2).bind fun t232 => (if x8.length < 17592186044416 then (privityref05_LagrangeWeights.l0 k x0 x1 x2 (x8 ++ [t232]) (wrap64 (x9 + 1))) else (none)))) else (some (x8,0))
def privityref05_LagrangeWeights.f (k : Nat) (a0 : Int) (l1 : List Int) (a2 : Int) : Option (List Int × Int) := (privityref05_Unlike.f k l1).bind fun t228 => (if t228 = true then (privityref05_LagrangeWeights.l0 k a0 l1 a2 ([] : List Int) 0) else (some (([] : List Int),1)))
set_option maxHeartbeats 8000000 in
set_option maxRecDepth 100000 in
theorem privityref05_LagrangeWeights.calls (k : Nat) (a0 : Int) (A1 : Option Addr) (c1 : Nat) (l1 : List Int) (a2 : Int) (r1 : List Int) (r2 : Int) (w : World) (hr1 : Kd.C (Kd.int .u64) w A1 l1.length l1) (hc1 : l1.length ≤ c1) (h : privityref05_LagrangeWeights.f k a0 l1 a2 = some (r1,r2)) :
  Calls Try.prog 34 #[.int .u64 a0,.slice A1 l1.length c1,.int .u64 a2] w fun e w' => ∃ v0_ : Value,e = .returned (.tuple #[v0_,.int .i64 r2]) ∧ Kd.R (Kd.int .u64) 22 w' w.heap.size (fun _ => True) v0_ r1 ∧ Below w.heap.size w w' := by
 have HR1 := am hr1
 have HC1 := am hc1
 clear hr1 hc1
 have HB := am (Below.refl w.heap.size w)
 have H : ((privityref05_Unlike.f k l1).bind fun t228 => (if t228 = true then (privityref05_LagrangeWeights.l0 k a0 l1 a2 ([] : List Int) 0) else (some (([] : List Int),1)))) = some (r1,r2) := h
 clear h
 replace H := Option.bind_eq_some_iff.mp H
 obtain ⟨t228,A40,H⟩ := H
 try dsimp only at H
 have A4 := am A40
 clear A40
 by_cases c5 : t228 = true
 ·subst c5
  rw [if_pos rfl] at H
  have H' := am H
  clear H
  go_enter Try.func34,Try.ntmps34
  go_wp2_with (first|((with_reducible refine gate_callee (f := 63) rfl ?_);refine goesL_ (some 11) rfl rfl Try.func63 (by kernel_rfl) rfl #[.slice A1 l1.length c1] rfl (by (try simp only [List.map_toArray,List.map_cons,List.map_nil]);first|done|rfl|(simp only [List.length_drop,List.length_take];rfl)) ?_;(with_reducible refine (privityref05_Unlike.calls k _ _ l1 true _ ?side1 ?side2 A4.out).mono ?_);(case side1 => repeat (first|exact HR1.out|(with_reducible refine Kd.C_alloc ?_ _)|(with_reducible refine Kd.C_drewN ?_ _)|(with_reducible refine Kd.C_drew ?_)));(case side2 => exact HC1.out);rintro e w' ⟨rfl,⟨nd,rfl⟩⟩;refine ⟨_,rfl,?_⟩))
  go_loopg [8,9] k (fun kq v8 v9 w' => ∃ (x8_1 : List Int) (x9_1 : Int),v9 = .int .i64 x9_1 ∧ Aside0 (privityref05_LagrangeWeights.l0 kq a0 l1 a2 x8_1 x9_1 = some (r1,r2)) ∧ Aside0 (kq ≤ k) ∧ Aside0 (Kd.R (Kd.int .u64) 22 w' w.heap.size (fun _ => True) v8 x8_1) ∧ Aside0 (Below w.heap.size w w'))
  case atStart => exact ⟨(([] : List Int)),(0),(by first|rfl|(simp;done)|(simp [*];done)),H',⟨Nat.le_refl _⟩,⟨by first|exact Kd.R_nil _ _ _ _ _|exact Kd.N_nil _ _ _ _ _|exact Kd.V_nil _ _ _ _ _|exact Kd.Q_nil _ _ _ _ _|exact Kd.S_nil _ _ _ _ _⟩,⟨bb HB⟩⟩
  case round =>
   clear H'
   try clear c1
   try clear p2
   try clear c3
   try clear c5
   obtain ⟨x8_1,x9_1,rfl,HA,HK1,HO_8,HB⟩ := hrel
   cases gk with
   | zero => exact absurd HA.out (by simp [privityref05_LagrangeWeights.l0])
   | succ k1 =>
    have H := HA.out
    clear HA
    simp only [privityref05_LagrangeWeights.l0] at H
    by_cases c6 : x9_1 < (l1.length : Int)
    ·rw [if_pos c6] at H
     have c6b0 : decide (x9_1 < (l1.length : Int)) = true := decide_eq_true c6
     clear c6
     replace H := Option.bind_eq_some_iff.mp H
     obtain ⟨t229,A70,H⟩ := H
     try dsimp only at H
     have A7 := am A70
     clear A70
     replace H := Option.bind_eq_some_iff.mp H
     obtain ⟨t232,A80,H⟩ := H
     try dsimp only at H
     have A8 := am A80
     clear A80
     by_cases c9 : x8_1.length < 17592186044416
     ·rw [if_pos c9] at H
      have LMc9 := am c9
      clear c9
      obtain ⟨y233,hy233⟩ : ∃ y_ : List Int,y_ = (x8_1 ++ [t232]) := ⟨_,rfl⟩
      replace H : (privityref05_LagrangeWeights.l0 k1 a0 l1 a2 y233 (wrap64 (x9_1 + 1))) = some (r1,r2) := by first|(rw [hy233];with_reducible exact H)|(have H2_ := (Option.bind_some _ _).symm.trans H;rw [hy233];with_reducible exact H2_)|(have H2_ := (Option.bind_some _ _).symm.trans H;with_reducible exact H2_)|with_reducible exact H|(rw [hy233];exact H)|exact H
      have Ny233 := am hy233
      clear hy233
      have H' := am H
      clear H
      go_wp2_with (first|((with_reducible refine gate_callee (f := 65) rfl ?_);refine goesL_ (some 24) rfl rfl Try.func65 (by kernel_rfl) rfl #[.int .u64 a0,.slice A1 l1.length c1,.int .i64 x9_1] rfl (by (try simp only [List.map_toArray,List.map_cons,List.map_nil]);first|done|rfl|(simp only [List.length_drop,List.length_take];rfl)) ?_;(with_reducible refine (privityref05_base.calls k1 a0 _ _ l1 x9_1 t229 _ ?side1 ?side2 A7.out).mono ?_);(case side1 => exact cb HR1 HB);(case side2 => exact HC1.out);rintro e w10 ⟨v230,rfl,ho0,hb⟩;refine ⟨_,rfl,?_⟩;have n0_ := am (Kd.R_elder' (rr HO_8) (Kd.R_base ho0) hb);have n1_ := am (Kd.R_lower (Kd.R_new' ho0 (Kd.R_lt (rr HO_8))) (below_size (bb HB)));have n2_ := am (below_step (bb HB) hb);clear HO_8 HB;have HO_8 := n0_;have HO231 := n1_;have HB := n2_;clear n0_ n1_ n2_;(try clear hb);(try clear hb2);(try clear hk);(try clear hi);(try clear ho0);obtain ⟨Ao11,co11,eo11⟩ := Kd.R_slice HO231.out;subst eo11)|((with_reducible refine gate_callee (f := 64) rfl ?_);refine goesL_ (some 26) rfl rfl Try.func64 (by kernel_rfl) rfl #[.int .u64 a0,.slice Ao11 t229.length co11,.int .u64 a2] rfl (by (try simp only [List.map_toArray,List.map_cons,List.map_nil]);first|done|rfl|(simp only [List.length_drop,List.length_take];rfl)) ?_;(with_reducible refine (privityref04_Eval.calls k1 a0 _ _ t229 a2 t232 _ ?side1 ?side2 A8.out).mono ?_);(case side1 => exact cr HO231);(case side2 => exact (Kd.R_reads' HO231.out).2.1);rintro e w' ⟨rfl,⟨nd,rfl⟩⟩;refine ⟨_,rfl,?_⟩)|((with_reducible refine gate_builtin (b := .append) (xs := #[.tmp 19,.tmp 27]) rfl ?_);at_builtin;refine Kd.R_append (Kd.int .u64) (w0 := w) w.heap.size rfl (.tmp 19) (.tmp 27) 40 22 (.int .u64 0) 8 rfl Try.underlying40 info22 rfl (by decide) (by omega) u8 x8_1 t232 [.int .u64 t232] (fun k_ => some k_ ≠ (.slice Ao11 t229.length co11 : Value).ownBlock) (fun _ => False) rfl rfl ?aP (fun _ hk => hk.elim) ?aF ?aO ?aB ?aS ?aL ?_;(case aP => exact rfl);(case aB => exact (bb HB));(case aF => exact (fun k_ hk => Kd.fresh' (Kd.R_lt (rr HO231)) k_ hk));(case aO => exact (by (with_reducible repeat (first|apply Kd.R_alloc|apply Kd.R_drewN|apply Kd.R_drew));exact Kd.R_mono HO_8.out (fun _ hk => hk.2)));(case aS => exact (below_size (bb HB)));(case aL => have := LMc9.out;omega);intro v234 w12 ho hb hg hat;rw [← Ny233.out] at ho;have n0_ := am (Kd.R_after (ok := (fun _ => True)) (rr HO231) hg hat);have n1_ := am (hb);have n2_ := am (ho);clear HO231 HB HO_8;have HO231 := n0_;have HB := n1_;have HO235 := n2_;clear n0_ n1_ n2_;clear ho hb hg hat))
      go_roundg k1
      case measure => have := HK1.out;omega
      case rel => exact ⟨(y233),(wrap64 (x9_1 + 1)),(by first|rfl|(simp;done)|(simp [*];done)),H',⟨by have := HK1.out;omega⟩,⟨by (with_reducible repeat (first|apply Kd.R_alloc|apply Kd.R_drewN|apply Kd.R_drew));exact Kd.R_mono HO235.out (fun _ hk => trivial)⟩,⟨bb HB⟩⟩
     ·rw [if_neg c9] at H
      exact absurd H (by simp)
    ·rw [if_neg c6] at H
     have c6b0 : decide (x9_1 < (l1.length : Int)) = false := decide_eq_false c6
     clear c6
     simp only [Option.some.injEq,Prod.mk.injEq] at H
     obtain ⟨rfl,rfl⟩ := H
     go_wp2
     go_ret2
     exact ⟨_,by first|rfl|(simp [errW_none,errW_some] <;> rfl)|(simp [*,errW_none,errW_some] <;> rfl),by (with_reducible repeat (first|apply Kd.R_alloc|apply Kd.R_drewN|apply Kd.R_drew));exact HO_8.out,bb HB⟩
 ·replace c5 := Bool.eq_false_iff.mpr c5
  subst c5
  rw [if_neg (show ¬ (false = true) by decide)] at H
  simp only [Option.some.injEq,Prod.mk.injEq] at H
  obtain ⟨rfl,rfl⟩ := H
  go_enter Try.func34,Try.ntmps34
  go_wp2_with (first|((with_reducible refine gate_callee (f := 63) rfl ?_);refine goesL_ (some 11) rfl rfl Try.func63 (by kernel_rfl) rfl #[.slice A1 l1.length c1] rfl (by (try simp only [List.map_toArray,List.map_cons,List.map_nil]);first|done|rfl|(simp only [List.length_drop,List.length_take];rfl)) ?_;(with_reducible refine (privityref05_Unlike.calls k _ _ l1 false _ ?side1 ?side2 A4.out).mono ?_);(case side1 => repeat (first|exact HR1.out|(with_reducible refine Kd.C_alloc ?_ _)|(with_reducible refine Kd.C_drewN ?_ _)|(with_reducible refine Kd.C_drew ?_)));(case side2 => exact HC1.out);rintro e w' ⟨rfl,⟨nd,rfl⟩⟩;refine ⟨_,rfl,?_⟩))
  go_ret2
  exact ⟨_,by first|rfl|(simp [errW_none,errW_some] <;> rfl)|(simp [*,errW_none,errW_some] <;> rfl),by first|exact Kd.R_nil _ _ _ _ _|exact Kd.N_nil _ _ _ _ _|exact Kd.V_nil _ _ _ _ _|exact Kd.Q_nil _ _ _ _ _|exact Kd.S_nil _ _ _ _ _,bb HB⟩
def hyperinvertible_points.l0 : Nat → Int → List Int → Int → Int → Option (List Int)
 | 0,_,_,_,_ => none
 | k + 1,x0,x5,x7,x8 => if x8 < x7 then (if x5.length < 17592186044416 then (hyperinvertible_points.l0 k x0 (x5 ++ [IntKind.u64.wrap (wrap64 (x0 + x8))]) x7 (wrap64 (x8 + 1))) else (none)) else (some x5)
def hyperinvertible_points.f (k : Nat) (a0 : Int) (a1 : Int) : Option (List Int) := hyperinvertible_points.l0 k a0 ([] : List Int) a1 0
theorem hyperinvertible_points.mono_l : ∀ k,(∀ y0 y1 y2 y3,LeO (hyperinvertible_points.l0 k y0 y1 y2 y3) (hyperinvertible_points.l0 (k + 1) y0 y1 y2 y3))
 | 0 => fun _ _ _ _ r h => by simp [hyperinvertible_points.l0] at h
 | k + 1 => by
  have ih0 := hyperinvertible_points.mono_l k
  ·intro y0 y1 y2 y3
   unfold hyperinvertible_points.l0
   repeat' first
   | (with_reducible exact ih0 _ _ _ _)
   | (with_reducible exact LeO.refl _)
   | (with_reducible exact LeO.none _)
   | (with_reducible refine LeO.ite ?_ ?_)
   | (with_reducible refine LeO.bind ?_ (fun _ => ?_))
   | exact ih0 _ _ _ _
   | exact LeO.none _
   | refine LeO.ite ?_ ?_
   | refine LeO.bind ?_ (fun _ => ?_)
theorem hyperinvertible_points.mono : ∀ a0 a1 k,LeO (hyperinvertible_points.f k a0 a1) (hyperinvertible_points.f (k + 1) a0 a1) := by
 intro a0 a1 k
 have ih0 := hyperinvertible_points.mono_l k
 unfold hyperinvertible_points.f
 repeat' first
   | (with_reducible exact ih0 _ _ _ _)
   | (with_reducible exact LeO.refl _)
   | (with_reducible exact LeO.none _)
   | (with_reducible refine LeO.ite ?_ ?_)
   | (with_reducible refine LeO.bind ?_ (fun _ => ?_))
   | exact ih0 _ _ _ _
   | exact LeO.none _
   | refine LeO.ite ?_ ?_
   | refine LeO.bind ?_ (fun _ => ?_)
set_option maxHeartbeats 8000000 in
set_option maxRecDepth 100000 in
theorem hyperinvertible_points.calls (k : Nat) (a0 : Int) (a1 : Int) (r : List Int) (w : World) (h : hyperinvertible_points.f k a0 a1 = some r) :
  Calls Try.prog 39 #[.int .i64 a0,.int .i64 a1] w fun e w' => ∃ v0_ : Value,e = .returned (v0_) ∧ Kd.R (Kd.int .u64) 22 w' w.heap.size (fun _ => True) v0_ r ∧ Below w.heap.size w w' := by
 have HB := am (Below.refl w.heap.size w)
 have H : (hyperinvertible_points.l0 k a0 ([] : List Int) a1 0) = some r := h
 clear h
 have H' := am H
 clear H
 go_enter Try.func39,Try.ntmps39
 go_wp2
 go_loopg [5,8] k (fun kq v5 v8 w' => ∃ (x5_1 : List Int) (x8_1 : Int),v8 = .int .i64 x8_1 ∧ Aside0 (hyperinvertible_points.l0 kq a0 x5_1 a1 x8_1 = some r) ∧ Aside0 (kq ≤ k) ∧ Aside0 (Kd.R (Kd.int .u64) 22 w' w.heap.size (fun _ => True) v5 x5_1) ∧ Aside0 (Below w.heap.size w w'))
 case atStart => exact ⟨(([] : List Int)),(0),(by first|rfl|(simp;done)|(simp [*];done)),H',⟨Nat.le_refl _⟩,⟨by first|exact Kd.R_nil _ _ _ _ _|exact Kd.N_nil _ _ _ _ _|exact Kd.V_nil _ _ _ _ _|exact Kd.Q_nil _ _ _ _ _|exact Kd.S_nil _ _ _ _ _⟩,⟨bb HB⟩⟩
 case round =>
  clear H'
  try clear p2
  obtain ⟨x5_1,x8_1,rfl,HA,HK1,HO_5,HB⟩ := hrel
  cases gk with
  | zero => exact absurd HA.out (by simp [hyperinvertible_points.l0])
  | succ k1 =>
   have H := HA.out
   clear HA
   simp only [hyperinvertible_points.l0] at H
   by_cases c3 : x8_1 < a1
   ·rw [if_pos c3] at H
    have c3b0 : decide (x8_1 < a1) = true := decide_eq_true c3
    clear c3
    by_cases c4 : x5_1.length < 17592186044416
    ·rw [if_pos c4] at H
     have LMc4 := am c4
     clear c4
     obtain ⟨y369,hy369⟩ : ∃ y_ : List Int,y_ = (x5_1 ++ [IntKind.u64.wrap (wrap64 (a0 + x8_1))]) := ⟨_,rfl⟩
     replace H : (hyperinvertible_points.l0 k1 a0 y369 a1 (wrap64 (x8_1 + 1))) = some r := by first|(rw [hy369];with_reducible exact H)|(have H2_ := (Option.bind_some _ _).symm.trans H;rw [hy369];with_reducible exact H2_)|(have H2_ := (Option.bind_some _ _).symm.trans H;with_reducible exact H2_)|with_reducible exact H|(rw [hy369];exact H)|exact H
     have Ny369 := am hy369
     clear hy369
     have H' := am H
     clear H
     go_wp2_with (first|((with_reducible refine gate_builtin (b := .append) (xs := #[.tmp 11,.tmp 16]) rfl ?_);at_builtin;refine Kd.R_append (Kd.int .u64) (w0 := w) w.heap.size rfl (.tmp 11) (.tmp 16) 40 22 (.int .u64 0) 8 rfl Try.underlying40 info22 rfl (by decide) (by omega) u5 x5_1 (IntKind.u64.wrap (wrap64 (a0 + x8_1))) [.int .u64 (IntKind.u64.wrap (wrap64 (a0 + x8_1)))] (fun _ => True) (fun _ => False) rfl rfl ?aP (fun _ hk => hk.elim) ?aF ?aO ?aB ?aS ?aL ?_;(case aP => exact rfl);(case aB => exact (bb HB));(case aF => exact (fun _ _ => trivial));(case aO => exact (rr HO_5));(case aS => exact (below_size (bb HB)));(case aL => have := LMc4.out;omega);intro v370 w5 ho hb hg hat;rw [← Ny369.out] at ho;have n0_ := am (hb);have n1_ := am (ho);clear HB HO_5;have HB := n0_;have HO371 := n1_;clear n0_ n1_;clear ho hb hg hat))
     go_roundg k1
     case measure => have := HK1.out;omega
     case rel => exact ⟨(y369),(wrap64 (x8_1 + 1)),(by first|rfl|(simp;done)|(simp [*];done)),H',⟨by have := HK1.out;omega⟩,⟨by (with_reducible repeat (first|apply Kd.R_alloc|apply Kd.R_drewN|apply Kd.R_drew));exact HO371.out⟩,⟨bb HB⟩⟩
    ·rw [if_neg c4] at H
     exact absurd H (by simp)
   ·rw [if_neg c3] at H
    have c3b0 : decide (x8_1 < a1) = false := decide_eq_false c3
    clear c3
    obtain rfl := Option.some.inj H
    go_wp2
    go_ret
    exact ⟨_,by first|rfl|(simp [errW_none,errW_some] <;> rfl)|(simp [*,errW_none,errW_some] <;> rfl),by (with_reducible repeat (first|apply Kd.R_alloc|apply Kd.R_drewN|apply Kd.R_drew));exact HO_5.out,bb HB⟩
def field_Inverse.f (k : Nat) (a0 : Int) (a1 : Int) : Option (Int × Int) := if a1 = 0 then (some (0,8)) else ((field_Pow.f k a0 a1 (IntKind.u64.wrap (a0 - 2))).bind fun t116 => (some (t116,0)))
set_option maxHeartbeats 8000000 in
set_option maxRecDepth 100000 in
theorem field_Inverse.calls (k : Nat) (a0 : Int) (a1 : Int) (r1 : Int) (r2 : Int) (w : World) (h : field_Inverse.f k a0 a1 = some (r1,r2)) :
  Calls Try.prog 86 #[.int .u64 a0,.int .u64 a1] w fun e w' => e = .returned (.tuple #[.int .u64 r1,.int .i64 r2]) ∧ Drawn0 w w' := by
 have H : (if a1 = 0 then (some (0,8)) else ((field_Pow.f k a0 a1 (IntKind.u64.wrap (a0 - 2))).bind fun t116 => (some (t116,0)))) = some (r1,r2) := h
 clear h
 by_cases c3 : a1 = 0
 ·rw [if_pos c3] at H
  have c3b0 : (a1 == 0) = true := beq_iff_eq.mpr c3
  have c3b1 : (a1 != 0) = false := bne_eq_false_iff_eq.mpr c3
  clear c3
  simp only [Option.some.injEq,Prod.mk.injEq] at H
  obtain ⟨rfl,rfl⟩ := H
  go_enter Try.func86,Try.ntmps86
  go_wp2
  go_ret2
  exact ⟨by first|rfl|(simp;done)|(simp [*];done),by repeat (first|exact Drawn0.refl _|apply Drawn0.step)⟩
 ·rw [if_neg c3] at H
  have c3b0 : (a1 == 0) = false := beq_eq_false_iff_ne.mpr c3
  have c3b1 : (a1 != 0) = true := bne_iff_ne.mpr c3
  replace H := Option.bind_eq_some_iff.mp H
  obtain ⟨t116,A40,H⟩ := H
  try dsimp only at H
  have A4 := am A40
  clear A40
  simp only [Option.some.injEq,Prod.mk.injEq] at H
  obtain ⟨rfl,rfl⟩ := H
  go_enter Try.func86,Try.ntmps86
  go_wp2_with (first|((with_reducible refine gate_callee (f := 100) rfl ?_);refine goesL_ (some 12) rfl rfl Try.func100 (by kernel_rfl) rfl #[.int .u64 a0,.int .u64 a1,.int .u64 (IntKind.u64.wrap (a0 - 2))] rfl (by (try simp only [List.map_toArray,List.map_cons,List.map_nil]);first|done|rfl|(simp only [List.length_drop,List.length_take];rfl)) ?_;(with_reducible refine (field_Pow.calls k a0 a1 (IntKind.u64.wrap (a0 - 2)) t116 _ A4.out).mono ?_);rintro e w' ⟨rfl,⟨nd,rfl⟩⟩;refine ⟨_,rfl,?_⟩))
  go_ret2
  exact ⟨by first|rfl|(simp;done)|(simp [*];done),by repeat (first|exact Drawn0.refl _|apply Drawn0.step)⟩
def interpolate_over.f (k : Nat) (a0 : Int) (a1 : Int) (a2 : Int) : Option (Int) := (field_Inverse.f k a0 a2).bind fun bt117 => ((field_Mul.f k a0 a1 bt117.1).bind fun t119 => (some t119))
set_option maxHeartbeats 8000000 in
set_option maxRecDepth 100000 in
theorem interpolate_over.calls (k : Nat) (a0 : Int) (a1 : Int) (a2 : Int) (r : Int) (w : World) (h : interpolate_over.f k a0 a1 a2 = some r) :
  Calls Try.prog 62 #[.int .u64 a0,.int .u64 a1,.int .u64 a2] w fun e w' => e = .returned (.int .u64 r) ∧ Drawn0 w w' := by
 have H : ((field_Inverse.f k a0 a2).bind fun bt117 => ((field_Mul.f k a0 a1 bt117.1).bind fun t119 => (some t119))) = some r := h
 clear h
 replace H := Option.bind_eq_some_iff.mp H
 obtain ⟨⟨t117,t118⟩,A40,H⟩ := H
 try dsimp only at H
 have A4 := am A40
 clear A40
 replace H := Option.bind_eq_some_iff.mp H
 obtain ⟨t119,A50,H⟩ := H
 try dsimp only at H
 have A5 := am A50
 clear A50
 obtain rfl := Option.some.inj H
 go_enter Try.func62,Try.ntmps62
 go_wp2_with (first|((with_reducible refine gate_callee (f := 86) rfl ?_);refine goesL_ (some 12) rfl rfl Try.func86 (by kernel_rfl) rfl #[.int .u64 a0,.int .u64 a2] rfl (by (try simp only [List.map_toArray,List.map_cons,List.map_nil]);first|done|rfl|(simp only [List.length_drop,List.length_take];rfl)) ?_;(with_reducible refine (field_Inverse.calls k a0 a2 t117 t118 _ A4.out).mono ?_);rintro e w' ⟨rfl,⟨nd,rfl⟩⟩;refine ⟨_,rfl,?_⟩)|((with_reducible refine gate_callee (f := 27) rfl ?_);refine goesL_ (some 18) rfl rfl Try.func27 (by kernel_rfl) rfl #[.int .u64 a0,.int .u64 a1,.int .u64 t117] rfl (by (try simp only [List.map_toArray,List.map_cons,List.map_nil]);first|done|rfl|(simp only [List.length_drop,List.length_take];rfl)) ?_;(with_reducible refine (field_Mul.calls k a0 a1 t117 t119 _ A5.out).mono ?_);rintro e w' ⟨rfl,⟨nd,rfl⟩⟩;refine ⟨_,rfl,?_⟩))
 go_ret
 exact ⟨by first|rfl|(simp;done)|(simp [*];done),by repeat (first|exact Drawn0.refl _|apply Drawn0.step)⟩
end Go.Proofs.Ytmdoaijkaaaglaa.Pr
end
section
namespace Go.Proofs.Ytmdoaijkaaaglaa.Fd
def pw (p : Nat) : Nat → Nat → Nat → Nat → Nat
 | 0,_,_,acc => acc
 | k + 1,a,n,acc => pw p k (a * a % p) (n / 2) (if n % 2 = 1 then acc * a % p else acc)
theorem pow_mod' (a n p : Nat) : (a % p) ^ n % p = a ^ n % p := (Nat.pow_mod a n p).symm
theorem pow_two_half (a n : Nat) : a ^ n = (a * a) ^ (n / 2) * a ^ (n % 2) := by
 rw [← Nat.pow_two,← Nat.pow_mul,← Nat.pow_add];congr 1;omega
theorem pw_spec (p : Nat) : ∀ (k a n acc : Nat),n < 2 ^ k → pw p k a n acc % p = acc * a ^ n % p
 | 0,a,n,acc,h => by
  have : n = 0 := by simpa using h
  subst this;simp [pw]
 | k + 1,a,n,acc,h => by
  have hn : n / 2 < 2 ^ k := by rw [Nat.pow_succ] at h;omega
  rw [pw,pw_spec p k _ _ _ hn,pow_two_half a n]
  have e1 : (a * a % p) ^ (n / 2) % p = (a * a) ^ (n / 2) % p := pow_mod' _ _ _
  rcases Nat.mod_two_eq_zero_or_one n with e|e
  ·rw [e,if_neg (by decide),Nat.pow_zero,Nat.mul_one,Nat.mul_mod,e1,← Nat.mul_mod]
  ·rw [e,if_pos rfl,Nat.pow_one,Nat.mul_mod,e1,← Nat.mul_mod,Nat.mod_mul_mod]
   congr 1
   rw [Nat.mul_assoc,Nat.mul_comm a]
def Prm (q : Nat) : Prop := 1 < q ∧ ∀ e,e ∣ q → e = 1 ∨ e = q
theorem Prm.of_below {q : Nat} (h1 : 1 < q) (h : ∀ e,e < q → e ∣ q → e = 1) : Prm q :=
 ⟨h1,fun e he => by
  rcases Nat.lt_or_ge e q with h2|h2
  ·exact .inl (h e h2 he)
  ·exact .inr (Nat.le_antisymm (Nat.le_of_dvd (by omega) he) h2)⟩
def prmB (q : Nat) : Bool := decide (1 < q) && (List.range q).all fun e => decide (e < 2) || decide (q % e ≠ 0)
theorem Prm.of_bool {q : Nat} (h : prmB q = true) : Prm q := by
 simp only [prmB,Bool.and_eq_true,decide_eq_true_eq,List.all_eq_true,List.mem_range,Bool.or_eq_true] at h
 refine .of_below h.1 fun e he hd => ?_
 rcases h.2 e he with h2|h2
 ·have : e ≠ 0 := fun e0 => by subst e0;have := Nat.eq_zero_of_zero_dvd hd;omega
  omega
 ·exact absurd (Nat.mod_eq_zero_of_dvd hd) h2
theorem Prm.dvd_mul {q a b : Nat} (h : Prm q) (hd : q ∣ a * b) : q ∣ a ∨ q ∣ b := by
 rcases h.2 (Nat.gcd q a) (Nat.gcd_dvd_left q a) with e|e
 ·exact .inr (Nat.Coprime.dvd_of_dvd_mul_left e hd)
 ·exact .inl (e ▸ Nat.gcd_dvd_right q a)
def prod : List Nat → Nat
 | [] => 1
 | x :: l => x * prod l
theorem Prm.dvd_prod {q : Nat} (h : Prm q) : ∀ l : List Nat,(∀ x ∈ l,Prm x) → q ∣ prod l → q ∈ l
 | [],_,hd => by
  have := Nat.le_of_dvd (by decide) hd
  have := h.1
  simp [prod] at *;omega
 | x :: l,hl,hd => by
  rcases h.dvd_mul hd with e|e
  ·rcases (hl x (by simp)).2 q e with e1|e1
   ·have := h.1;omega
   ·simp [e1]
  ·exact List.mem_cons_of_mem _ (h.dvd_prod l (fun y hy => hl y (List.mem_cons_of_mem _ hy)) e)
theorem prime_factor : ∀ m : Nat,1 < m → ∃ q,Prm q ∧ q ∣ m := by
 intro m
 induction m using Nat.strongRecOn with
 | _ m ih =>
  intro hm
  by_cases h : ∃ e,e < m ∧ e ∣ m ∧ e ≠ 1
  ·obtain ⟨e,he,hd,h1⟩ := h
   have : e ≠ 0 := fun e0 => by subst e0;have := Nat.eq_zero_of_zero_dvd hd;omega
   obtain ⟨q,hq,hqe⟩ := ih e he (by omega)
   exact ⟨q,hq,Nat.dvd_trans hqe hd⟩
  ·exact ⟨m,.of_below hm fun e he hd => Classical.byContradiction fun h1 => h ⟨e,he,hd,h1⟩,Nat.dvd_refl m⟩
theorem pigeon : ∀ (n : Nat) (f : Nat → Nat),(∀ i,i < n → f i < n) → (∀ i j,i < n → j < n → f i = f j → i = j) → ∀ a,a < n → ∃ i,i < n ∧ f i = a
 | 0,_,_,_,a,ha => absurd ha (by omega)
 | n + 1,f,hf,hi,a,ha => by
  refine Classical.byContradiction fun hno => ?_
  have hno' : ∀ i,i < n + 1 → f i ≠ a := fun i h e => hno ⟨i,h,e⟩
  let f' : Nat → Nat := fun i => if f i = n then a else f i
  have hlt : ∀ i,i < n + 1 → f' i < n := by
   intro i h
   have h1 := hf i h
   have h2 := hno' i h
   show (if f i = n then a else f i) < n
   split
   ·rename_i e;rw [e] at h2;omega
   ·omega
  have hinj : ∀ i j,i < n + 1 → j < n + 1 → f' i = f' j → i = j := by
   intro i j h1 h2 e
   have a1 := hno' i h1
   have a2 := hno' j h2
   refine hi i j h1 h2 ?_
   change (if f i = n then a else f i) = (if f j = n then a else f j) at e
   split at e <;> split at e <;> first|omega|(exfalso;omega)
  obtain ⟨i,h1,h2⟩ := pigeon n f' (fun i h => hlt i (by omega)) (fun i j h1 h2 => hinj i j (by omega) (by omega)) (f' n) (hlt n (by omega))
  have := hinj i n (by omega) (by omega) h2
  omega
section order
variable {p g : Nat} (hp : 1 < p)
theorem one_mul_mod {a b : Nat} (h : a % p = 1 % p) : a * b % p = b % p := by
 rw [Nat.mul_mod,h,← Nat.mul_mod,Nat.one_mul]
theorem one_pow_mod {a : Nat} (h : a % p = 1 % p) (n : Nat) : a ^ n % p = 1 % p := by
 rw [Nat.pow_mod,h,← Nat.pow_mod,Nat.one_pow]
theorem pow_mul_mod {d : Nat} (h : g ^ d % p = 1 % p) (m : Nat) : g ^ (d * m) % p = 1 % p := by
 rw [Nat.pow_mul];exact one_pow_mod h m
theorem pow_mod_step {a b : Nat} (ha : g ^ a % p = 1 % p) (hb : g ^ b % p = 1 % p) : g ^ (a % b) % p = 1 % p := by
 have h := Nat.div_add_mod a b
 rw [← h,Nat.pow_add,one_mul_mod (pow_mul_mod hb _)] at ha
 exact ha
theorem pow_gcd (a b : Nat) (ha : g ^ a % p = 1 % p) (hb : g ^ b % p = 1 % p) : g ^ (Nat.gcd a b) % p = 1 % p := by
 induction a,b using Nat.gcd.induction with
 | H0 b => simpa using hb
 | H1 a b h ih =>
  rw [Nat.gcd_rec]
  exact ih (pow_mod_step hb ha) ha
variable (hone : g ^ (p - 1) % p = 1 % p)
theorem order_full (fs : List Nat) (hfs : ∀ x ∈ fs,Prm x) (hprod : p - 1 = prod fs) (hno : ∀ q ∈ fs,g ^ ((p - 1) / q) % p ≠ 1 % p) (hone : g ^ (p - 1) % p = 1 % p)
  (i : Nat) (h0 : 0 < i) (hi : i < p - 1) : g ^ i % p ≠ 1 % p := by
 intro h
 have hg := pow_gcd i (p - 1) h hone
 have d1 := Nat.gcd_dvd_left i (p - 1)
 have d2 := Nat.gcd_dvd_right i (p - 1)
 generalize Nat.gcd i (p - 1) = d at hg d1 d2
 obtain ⟨m,hm⟩ := d2
 have hd : d ≤ i := Nat.le_of_dvd h0 d1
 have hm1 : 1 < m := by
  rcases m with _|_|m
  ·omega
  ·omega
  ·omega
 obtain ⟨q,hq,k,hk⟩ := prime_factor m hm1
 have hqm : q ∈ fs := hq.dvd_prod fs hfs (by rw [← hprod,hm,hk];exact ⟨d * k,by rw [Nat.mul_left_comm]⟩)
 refine hno q hqm ?_
 have : (p - 1) / q = d * k := by
  rw [hm,hk,Nat.mul_left_comm,Nat.mul_div_cancel_left _ (by have := hq.1;omega)]
 rw [this]
 exact pow_mul_mod hg k
include hp in
theorem all_powers (hord : ∀ i,0 < i → i < p - 1 → g ^ i % p ≠ 1 % p) (hone : g ^ (p - 1) % p = 1 % p) (a : Nat) (h0 : 0 < a) (ha : a < p) : ∃ i,g ^ i % p = a := by
 have unit : ∀ i,i ≤ p - 1 → g ^ i * g ^ (p - 1 - i) % p = 1 % p := by
  intro i hi;rw [← Nat.pow_add,show i + (p - 1 - i) = p - 1 from by omega];exact hone
 have nz : ∀ i,i < p - 1 → g ^ i % p ≠ 0 := by
  intro i hi h
  have := unit i (by omega)
  rw [Nat.mul_mod,h,Nat.zero_mul,Nat.zero_mod,Nat.mod_eq_of_lt hp] at this
  omega
 have inj : ∀ i j,i < j → j < p - 1 → g ^ i % p ≠ g ^ j % p := by
  intro i j hij hj h
  refine hord (j - i) (by omega) (by omega) ?_
  have e1 : g ^ j * g ^ (p - 1 - i) % p = 1 % p := by
   rw [Nat.mul_mod,← h,← Nat.mul_mod];exact unit i (by omega)
  have e2 : g ^ j * g ^ (p - 1 - i) = g ^ (p - 1) * g ^ (j - i) := by
   rw [← Nat.pow_add,← Nat.pow_add];congr 1;omega
  rw [e2,one_mul_mod hone] at e1
  exact e1
 obtain ⟨i,_,h2⟩ := pigeon (p - 1) (fun i => g ^ i % p - 1) (fun i h => by
   have := nz i h;have := Nat.mod_lt (g ^ i) (show 0 < p by omega);omega)
  (fun i j h1 h2 h => by
   have a1 := nz i h1
   have a2 := nz j h2
   have h : g ^ i % p = g ^ j % p := by omega
   rcases Nat.lt_trichotomy i j with h3|h3|h3
   ·exact absurd h (inj i j h3 h2)
   ·exact h3
   ·exact absurd h.symm (inj j i h3 h1)) (a - 1) (by omega)
 refine ⟨i,?_⟩
 have := nz i ‹_›
 omega
include hp in
theorem fermat_of (hord : ∀ i,0 < i → i < p - 1 → g ^ i % p ≠ 1 % p) (hone : g ^ (p - 1) % p = 1 % p) (a : Nat) (h0 : 0 < a) (ha : a < p) : a ^ (p - 1) % p = 1 % p := by
 obtain ⟨i,hi⟩ := all_powers hp hord hone a h0 ha
 rw [← hi,pow_mod',← Nat.pow_mul,Nat.mul_comm]
 exact pow_mul_mod hone i
end order
structure Good (p : Nat) : Prop where
 big : 31 ≤ p
 small : p < 2305843009213693952
 fermat : ∀ a,0 < a → a < p → a ^ (p - 1) % p = 1
def certB (p g : Nat) (fs : List Nat) : Bool :=
 decide (31 ≤ p) && decide (p < 2305843009213693952) && fs.all prmB && decide (p - 1 = prod fs) && decide (pw p 64 g (p - 1) 1 % p = 1 % p) && fs.all fun q => decide (pw p 64 g ((p - 1) / q) 1 % p ≠ 1 % p)
theorem Good.of_cert {p g : Nat} {fs : List Nat} (h : certB p g fs = true) : Good p := by
 simp only [certB,Bool.and_eq_true,decide_eq_true_eq,List.all_eq_true] at h
 obtain ⟨⟨⟨⟨⟨h1,h2⟩,h3⟩,h4⟩,h5⟩,h6⟩ := h
 have hb : ∀ n,n < p → n < 2 ^ 64 := fun n hn => by
  have : (2 : Nat) ^ 64 = 18446744073709551616 := by decide
  omega
 have hone : g ^ (p - 1) % p = 1 % p := by
  rw [pw_spec p 64 g (p - 1) 1 (hb _ (by omega)),Nat.one_mul] at h5;exact h5
 refine ⟨h1,h2,fun a h0 ha => ?_⟩
 have := fermat_of (p := p) (g := g) (by omega) (order_full fs (fun x hx => .of_bool (h3 x hx)) h4 (fun q hq => by
  have := h6 q hq
  rw [pw_spec p 64 g _ 1 (hb _ (by have := Nat.div_le_self (p - 1) q;omega)),Nat.one_mul] at this
  exact this) hone) hone a h0 ha
 rw [this,Nat.mod_eq_of_lt (by omega)]
theorem good31 : Good 31 := Good.of_cert (g := 3) (fs := [2,3,5]) (by decide +kernel)
theorem good127 : Good 127 := Good.of_cert (g := 3) (fs := [2,3,3,7]) (by decide +kernel)
theorem good8191 : Good 8191 := Good.of_cert (g := 17) (fs := [2,3,3,5,7,13]) (by decide +kernel)
theorem good131071 : Good 131071 := Good.of_cert (g := 3) (fs := [2,3,5,17,257]) (by decide +kernel)
theorem good524287 : Good 524287 := Good.of_cert (g := 3) (fs := [2,3,3,3,7,19,73]) (by decide +kernel)
theorem good2147483647 : Good 2147483647 := Good.of_cert (g := 7) (fs := [2,3,3,7,11,31,151,331]) (by decide +kernel)
theorem good2305843009213693951 : Good 2305843009213693951 := Good.of_cert (g := 37) (fs := [2,3,3,5,5,7,11,13,31,41,61,151,331,1321]) (by decide +kernel)
end Go.Proofs.Ytmdoaijkaaaglaa.Fd
end
section
namespace Go.Proofs.Ytmdoaijkaaaglaa.E
open Go.RowKit Go.Proofs.Ytmdoaijkaaaglaa.Pr Go.Proofs.Ytmdoaijkaaaglaa.Hw Go.Proofs.YtmdoaijkaaaglaaW.PrintWords Go.Proofs.YtmdoaijkaaaglaaW.PrintLast Go.Proofs.YtmdoaijkaaaglaaW.PrintMore Go.Proofs.Ytmdoaijkaaaglaa.Fd
def Sup (p : Int) (q : Nat) : Prop :=
 (p = 31 ∧ q = 5) ∨ (p = 127 ∧ q = 7) ∨ (p = 8191 ∧ q = 13) ∨ (p = 131071 ∧ q = 17) ∨ (p = 524287 ∧ q = 19) ∨ (p = 2147483647 ∧ q = 31) ∨ (p = 2305843009213693951 ∧ q = 61)
def Supp (p : Int) : Prop := ∃ q,Sup p q
theorem Sup.width {p : Int} {q : Nat} (h : Sup p q) : Ev (fun k => field_width.f k p) (q : Int) := by
 refine Ev.of (field_width.mono p) (k := 3) ?_
 rcases h with ⟨rfl,rfl⟩|⟨rfl,rfl⟩|⟨rfl,rfl⟩|⟨rfl,rfl⟩|⟨rfl,rfl⟩|⟨rfl,rfl⟩|⟨rfl,rfl⟩ <;> kernel_rfl
theorem Sup.eq {p : Int} {q : Nat} (h : Sup p q) : p = 2 ^ q - 1 := by
 rcases h with ⟨rfl,rfl⟩|⟨rfl,rfl⟩|⟨rfl,rfl⟩|⟨rfl,rfl⟩|⟨rfl,rfl⟩|⟨rfl,rfl⟩|⟨rfl,rfl⟩ <;> rfl
theorem Sup.q5 {p : Int} {q : Nat} (h : Sup p q) : 5 ≤ q ∧ q ≤ 61 := by unfold Sup at h;omega
theorem Sup.bd {p : Int} {q : Nat} (h : Sup p q) : 31 ≤ p ∧ p ≤ 2305843009213693951 := by unfold Sup at h;omega
theorem Supp.bd {p : Int} (h : Supp p) : 31 ≤ p ∧ p ≤ 2305843009213693951 := h.elim fun _ h => h.bd
theorem Supp.good {p : Int} (h : Supp p)  : Fd.Good p.toNat := by
 obtain ⟨q,h⟩ := h
 rcases h with ⟨rfl,_⟩|⟨rfl,_⟩|⟨rfl,_⟩|⟨rfl,_⟩|⟨rfl,_⟩|⟨rfl,_⟩|⟨rfl,_⟩
 ·exact good31
 ·exact good127
 ·exact good8191
 ·exact good131071
 ·exact good524287
 ·exact good2147483647
 ·exact good2305843009213693951
theorem wrapU (n : Int) : IntKind.u64.wrap n = n % 18446744073709551616 := by simp [IntKind.wrap,IntKind.bits,IntKind.signed]
theorem wrapU_id {n : Int} (h0 : 0 ≤ n) (h1 : n < 18446744073709551616) : IntKind.u64.wrap n = n := by rw [wrapU];exact Int.emod_eq_of_lt h0 h1
theorem pow_le_61 {q : Nat} (hq : q ≤ 61) : 2 ^ q ≤ 2305843009213693952 := by
 have : 2 ^ q ≤ 2 ^ 61 := Nat.pow_le_pow_right (by decide) hq
 have e : (2 : Nat) ^ 61 = 2305843009213693952 := by decide
 omega
theorem and_mask (x : Nat) (hx : x < 18446744073709551616) (q : Nat) (hq : q ≤ 61) : Go.bits .and .u64 (x : Int) ((2 ^ q - 1 : Nat) : Int) = ((x % 2 ^ q : Nat) : Int) := by
 have := pow_le_61 hq
 rw [u64_and_nat x (2 ^ q - 1) hx (by omega),Nat.and_two_pow_sub_one_eq_mod]
theorem or_part (hi lo : Nat) (h1 : hi < 18446744073709551616) (h2 : lo < 18446744073709551616) (q : Nat) (hq : 5 ≤ q) (hq' : q ≤ 61) :
  Go.bits .or .u64 ((lo / 2 ^ q : Nat) : Int) ((hi * 2 ^ (64 - q) % 18446744073709551616 : Nat) : Int) = (((hi * 18446744073709551616 + lo) / 2 ^ q % 18446744073709551616 : Nat) : Int) := by
 have e64 : (18446744073709551616 : Nat) = 2 ^ (64 - q) * 2 ^ q := by
  rw [← Nat.pow_add,show 64 - q + q = 64 from by omega]
 have hlo : lo / 2 ^ q < 2 ^ (64 - q) := by rw [Nat.div_lt_iff_lt_mul (Nat.two_pow_pos _),← e64];exact h2
 rw [u64_or_nat _ _ (by have := Nat.div_le_self lo (2 ^ q);omega) (Nat.mod_lt _ (by decide))]
 congr 1
 have e1 : hi * 2 ^ (64 - q) % 18446744073709551616 = 2 ^ (64 - q) * (hi % 2 ^ q) := by
  rw [e64,Nat.mul_comm hi,Nat.mul_mod_mul_left]
 have e2 : (hi * 18446744073709551616 + lo) / 2 ^ q = 2 ^ (64 - q) * hi + lo / 2 ^ q := by
  rw [e64,← Nat.mul_assoc,Nat.add_comm,Nat.add_mul_div_right _ _ (Nat.two_pow_pos _),Nat.add_comm,Nat.mul_comm hi]
 have hm := Nat.mod_lt hi (Nat.two_pow_pos q)
 have e3 := Nat.div_add_mod hi (2 ^ q)
 rw [e1,e2,Nat.or_comm,← Nat.two_pow_add_eq_or_of_lt hlo]
 generalize hi % 2 ^ q = m at *
 generalize lo / 2 ^ q = l at *
 have e4 : 2 ^ (64 - q) * hi + l = 18446744073709551616 * (hi / 2 ^ q) + (2 ^ (64 - q) * m + l) := by
  generalize hi / 2 ^ q = d at *
  rw [← e3,Nat.mul_add,← Nat.mul_assoc,← e64,Nat.add_assoc]
 have e5 : 2 ^ (64 - q) * m + l < 18446744073709551616 := by
  have : 2 ^ (64 - q) * (m + 1) ≤ 2 ^ (64 - q) * 2 ^ q := Nat.mul_le_mul_left _ hm
  rw [← e64,Nat.mul_add] at this
  omega
 rw [e4,Nat.mul_add_mod,Nat.mod_eq_of_lt e5]
theorem step_mod (N q : Nat) : (N / 2 ^ q + N % 2 ^ q) % (2 ^ q - 1) = N % (2 ^ q - 1) := by
 have h := Nat.div_add_mod N (2 ^ q)
 have h2 : 0 < 2 ^ q := Nat.two_pow_pos q
 generalize N / 2 ^ q = d at *
 generalize N % 2 ^ q = m at *
 have : N = (2 ^ q - 1) * d + (d + m) := by
  rw [← h,Nat.sub_mul,Nat.one_mul]
  have : d ≤ 2 ^ q * d := Nat.le_mul_of_pos_left d h2
  omega
 rw [this,Nat.mul_add_mod]
theorem shrN (x q : Nat) (hq : q ≤ 64) : shr .u64 (x : Int) (q : Int) = ((x / 2 ^ q : Nat) : Int) := by
 unfold shr
 rw [show min (q : Int).toNat IntKind.u64.bits = q from by simp [IntKind.bits];omega]
 simp
theorem shlN (x q : Nat) (hq : q ≤ 64) : shl .u64 (x : Int) (q : Int) = ((x * 2 ^ q % 18446744073709551616 : Nat) : Int) := by
 unfold shl
 rw [show min (q : Int).toNat IntKind.u64.bits = q from by simp [IntKind.bits];omega,wrapU]
 simp
theorem fold_l0 {p : Int} {q : Nat} (h : Sup p q) : ∀ (N hi lo : Nat),hi < 18446744073709551616 → lo < 18446744073709551616 → hi * 18446744073709551616 + lo = N →
  Ev (fun k => field_fold.l0 k p hi lo q) ((N % p.toNat : Nat) : Int) := by
 have hq := h.q5
 have hp := h.eq
 have hpow := pow_le_61 hq.2
 have hpn : p = ((2 ^ q - 1 : Nat) : Int) := by
  rw [hp,Int.natCast_sub (Nat.one_le_two_pow)]
  simp
 have hpn' : p.toNat = 2 ^ q - 1 := by rw [hpn];rfl
 have h32 : 2 ^ 5 ≤ 2 ^ q := Nat.pow_le_pow_right (n := 2) (by decide) hq.1
 intro N
 induction N using Nat.strongRecOn with
 | _ N ih =>
  intro hi lo h1 h2 hN
  have hround : 2 ^ q ≤ N → Ev (fun k => (bits_Add64.f (Go.bits .or .u64 (shr .u64 lo q) (shl .u64 hi (IntKind.u64.wrap (64 - q)))) (Go.bits .and .u64 lo p) 0).bind fun bt239 => (field_fold.l0 k p (IntKind.u64.wrap ((shr .u64 hi q) + bt239.2)) bt239.1 q)) ((N % p.toNat : Nat) : Int) := by
   intro hc
   have e64 : (18446744073709551616 : Nat) = 2 ^ (64 - q) * 2 ^ q := by
    rw [← Nat.pow_add,show 64 - q + q = 64 from by omega]
   have hw : IntKind.u64.wrap (64 - q) = ((64 - q : Nat) : Int) := by rw [wrapU_id (by omega) (by omega)];omega
   have eA := or_part hi lo h1 h2 q hq.1 hq.2
   have eB : lo % 2 ^ q = N % 2 ^ q := by rw [← hN,e64,← Nat.mul_assoc,Nat.mul_comm _ (2 ^ q),Nat.mul_add_mod]
   have eC : hi / 2 ^ q = N / 2 ^ q / 18446744073709551616 := by
    rw [Nat.div_div_eq_div_mul,Nat.mul_comm,← Nat.div_div_eq_div_mul,← hN,Nat.mul_comm hi,Nat.mul_add_div (by decide),Nat.div_eq_of_lt h2,Nat.add_zero]
   rw [hw,shrN lo q (by omega),shrN hi q (by omega),shlN hi _ (by omega),eA,hN,hpn,and_mask lo h2 q hq.2,eB,eC]
   have hN128 : N < 18446744073709551616 * 18446744073709551616 := by rw [← hN];omega
   have hdm := Nat.div_add_mod N (2 ^ q)
   have hmlt := Nat.mod_lt N (Nat.two_pow_pos q)
   have hstep := step_mod N q
   have hd1 : 1 ≤ N / 2 ^ q := (Nat.le_div_iff_mul_le (Nat.two_pow_pos q)).2 (by omega)
   rw [← hpn,hpn'] at *
   have hlt : N / 2 ^ q + N % 2 ^ q < N := by
    have : 2 * (N / 2 ^ q) ≤ 2 ^ q * (N / 2 ^ q) := Nat.mul_le_mul_right _ (by omega)
    omega
   rw [← hstep]
   generalize N / 2 ^ q = d at *
   generalize N % 2 ^ q = m at *
   have hb : bits_Add64.f ((d % 18446744073709551616 : Nat) : Int) (m : Int) 0 = some ((((d % 18446744073709551616 + m) % 18446744073709551616 : Nat) : Int),(((d % 18446744073709551616 + m) / 18446744073709551616 : Nat) : Int)) := by
    unfold bits_Add64.f
    rw [if_pos (by omega),if_pos (by omega),if_pos (by omega),if_pos (by omega)]
    simp
   rw [hb]
   simp only [Option.bind_some]
   have e9 : IntKind.u64.wrap (((d / 18446744073709551616 : Nat) : Int) + (((d % 18446744073709551616 + m) / 18446744073709551616 : Nat) : Int)) = (((d + m) / 18446744073709551616 : Nat) : Int) := by
    rw [wrapU_id (by omega) (by omega)];omega
   rw [e9,show (d % 18446744073709551616 + m) % 18446744073709551616 = (d + m) % 18446744073709551616 from by omega]
   have := ih (d + m) hlt ((d + m) / 18446744073709551616) ((d + m) % 18446744073709551616) (by omega) (by omega) (Nat.div_add_mod' _ _)
   rwa [hpn'] at this
  by_cases hhi : hi = 0
  ·subst hhi
   by_cases hlo : (lo : Int) > p
   ·refine Ev.step (fun k => ?_) (hround (by omega))
    simp only [field_fold.l0]
    rw [if_pos (by rfl),if_pos hlo,if_pos (by omega),if_pos (by rw [wrapU_id (by omega) (by omega)];omega)]
   ·refine Ev.of (fun k => (field_fold.mono_l k) _ _ _ _) (k := 1) ?_
    simp only [field_fold.l0]
    rw [if_pos (by rfl),if_neg hlo]
    have hN' : N = lo := by omega
    by_cases e : (lo : Int) = p
    ·rw [if_pos e,hN',show p.toNat = lo from by omega,Nat.mod_self];rfl
    ·rw [if_neg e,hN',Nat.mod_eq_of_lt (by omega)]
  ·refine Ev.step (fun k => ?_) (hround (by omega))
   simp only [field_fold.l0]
   rw [if_neg (by omega),if_pos (by omega),if_pos (by rw [wrapU_id (by omega) (by omega)];omega)]
theorem fold_ev {p : Int} (h : Supp p) (hi lo : Int) (h0 : 0 ≤ hi) (h1 : hi < 18446744073709551616) (h2 : 0 ≤ lo) (h3 : lo < 18446744073709551616) :
  Ev (fun k => field_fold.f k p hi lo) ((hi * 18446744073709551616 + lo) % p) := by
 obtain ⟨q,h⟩ := h
 have := h.bd
 refine (Ev.bind (f := fun k t => field_fold.l0 k p hi lo t) h.width (a := q) ?_).congr fun k => rfl
 have := fold_l0 h _ hi.toNat lo.toNat (by omega) (by omega) rfl
 rw [Int.toNat_of_nonneg h0,Int.toNat_of_nonneg h2] at this
 have e : (((hi.toNat * 18446744073709551616 + lo.toNat) % p.toNat : Nat) : Int) = (hi * 18446744073709551616 + lo) % p := by
  rw [Int.natCast_emod,Int.natCast_add,Int.natCast_mul,Int.toNat_of_nonneg h0,Int.toNat_of_nonneg h2,Int.toNat_of_nonneg (by omega)];rfl
 rwa [e] at this
def Res (p a : Int) : Prop := 0 ≤ a ∧ a < p
theorem Res.mod {p : Int} (h : Supp p) (a : Int) : Res p (a % p) := by
 have := h.bd
 exact ⟨Int.emod_nonneg _ (by omega),Int.emod_lt_of_pos _ (by omega)⟩
theorem Res.eq {p a : Int} (h : Res p a) : a % p = a := Int.emod_eq_of_lt h.1 h.2
theorem add_ev {p : Int} (h : Supp p) {a b : Int} (ha : Res p a) (hb : Res p b) : Ev (fun k => field_Add.f k p a b) ((a + b) % p) := by
 have := h.bd
 obtain ⟨a0,a1⟩ := ha
 obtain ⟨b0,b1⟩ := hb
 have e := fold_ev h 0 (a + b) (by omega) (by omega) (by omega) (by omega)
 rw [Int.zero_mul,Int.zero_add] at e
 refine (Ev.bind (f := fun k t => some t) e (Ev.now _)).congr fun k => ?_
 show (field_fold.f k p 0 (IntKind.u64.wrap (a + b))).bind _ = _
 rw [wrapU_id (by omega) (by omega)]
theorem neg_eq {p : Int} (h : Supp p) {a : Int} (ha : Res p a) : field_Neg.f p a = some (-a % p) := by
 have := h.bd
 obtain ⟨a0,a1⟩ := ha
 unfold field_Neg.f
 by_cases e : a = 0
 ·rw [if_pos e,e];simp
 ·rw [if_neg e,wrapU_id (by omega) (by omega),show -a = (p - a) + p * (-1) from by omega,Int.add_mul_emod_self_left,Int.emod_eq_of_lt (by omega) (by omega)]
theorem sub_ev {p : Int} (h : Supp p) {a b : Int} (ha : Res p a) (hb : Res p b) : Ev (fun k => field_Sub.f k p a b) ((a - b) % p) := by
 have e := add_ev h ha (Res.mod h (-b))
 rw [show (a + -b % p) % p = (a - b) % p from by rw [Int.add_emod,Int.emod_emod_of_dvd _ (Int.dvd_refl p),← Int.add_emod,Int.sub_eq_add_neg]] at e
 refine (Ev.bind (f := fun k t => some t) e (Ev.now _)).congr fun k => ?_
 show (field_Neg.f p b).bind _ = _
 rw [neg_eq h hb]
 rfl
theorem mul64_eq {a b : Int} (a0 : 0 ≤ a) (a1 : a < 2305843009213693952) (b0 : 0 ≤ b) (b1 : b < 2305843009213693952) :
  bits_Mul64.f a b = some (a * b / 18446744073709551616,a * b % 18446744073709551616) := by
 have hA : Go.bits .and .u64 a 4294967295 = a % 4294967296 := by
  have := and_mask a.toNat (by omega) 32 (by decide)
  rw [Int.toNat_of_nonneg a0] at this
  rw [show (4294967295 : Int) = ((2 ^ 32 - 1 : Nat) : Int) from by decide,this]
  omega
 have hB : Go.bits .and .u64 b 4294967295 = b % 4294967296 := by
  have := and_mask b.toNat (by omega) 32 (by decide)
  rw [Int.toNat_of_nonneg b0] at this
  rw [show (4294967295 : Int) = ((2 ^ 32 - 1 : Nat) : Int) from by decide,this]
  omega
 have ea : a = 4294967296 * (a / 4294967296) + a % 4294967296 := by omega
 have eb : b = 4294967296 * (b / 4294967296) + b % 4294967296 := by omega
 have x1 : 0 ≤ a / 4294967296 ∧ a / 4294967296 < 536870912 := by omega
 have y1 : 0 ≤ b / 4294967296 ∧ b / 4294967296 < 536870912 := by omega
 have x0 : 0 ≤ a % 4294967296 ∧ a % 4294967296 < 4294967296 := by omega
 have y0 : 0 ≤ b % 4294967296 ∧ b % 4294967296 < 4294967296 := by omega
 unfold bits_Mul64.f
 rw [hA,hB]
 have e : a * b = 18446744073709551616 * (a / 4294967296 * (b / 4294967296)) + 4294967296 * (a / 4294967296 * (b % 4294967296)) + 4294967296 * (a % 4294967296 * (b / 4294967296)) + a % 4294967296 * (b % 4294967296) := by
  generalize a / 4294967296 = u at *
  generalize a % 4294967296 = v at *
  generalize b / 4294967296 = s at *
  generalize b % 4294967296 = t at *
  subst ea eb
  grind
 have bd : ∀ {u v U V : Int},0 ≤ u ∧ u < U → 0 ≤ v ∧ v < V → 0 ≤ u * v ∧ u * v ≤ (U - 1) * (V - 1) := by
  intro u v U V hu hv
  exact ⟨Int.mul_nonneg hu.1 hv.1,Int.mul_le_mul (by omega) (by omega) hv.1 (by omega)⟩
 have b1 := bd x1 y1
 have b2 := bd x1 y0
 have b3 := bd x0 y1
 have b4 := bd x0 y0
 have hm : IntKind.u64.wrap (a * b) = a * b % 18446744073709551616 := wrapU _
 rw [hm]
 generalize a * b = E at *
 generalize a / 4294967296 * (b / 4294967296) = D at *
 generalize a / 4294967296 * (b % 4294967296) = B at *
 generalize a % 4294967296 * (b / 4294967296) = C at *
 generalize a % 4294967296 * (b % 4294967296) = A at *
 have m32 : ∀ x : Int,0 ≤ x → x < 18446744073709551616 → Go.bits .and .u64 x 4294967295 = x % 4294967296 := by
  intro x h0 h1
  have := and_mask x.toNat (by omega) 32 (by decide)
  rw [Int.toNat_of_nonneg h0] at this
  rw [show (4294967295 : Int) = ((2 ^ 32 - 1 : Nat) : Int) from by decide,this]
  omega
 rw [wrapU_id (n := A) (by omega) (by omega),wrapU_id (n := B) (by omega) (by omega),wrapU_id (n := C) (by omega) (by omega),wrapU_id (n := D) (by omega) (by omega)]
 rw [wrapU_id (n := B + A / 4294967296) (by omega) (by omega),m32 _ (by omega) (by omega)]
 rw [wrapU_id (n := D + (B + A / 4294967296) / 4294967296) (by omega) (by omega),wrapU_id (n := (B + A / 4294967296) % 4294967296 + C) (by omega) (by omega),wrapU_id (by omega) (by omega)]
 congr 2
 omega
theorem mul_ev {p : Int} (h : Supp p) {a b : Int} (ha : Res p a) (hb : Res p b) : Ev (fun k => field_Mul.f k p a b) (a * b % p) := by
 have := h.bd
 obtain ⟨a0,a1⟩ := ha
 obtain ⟨b0,b1⟩ := hb
 have hn := Int.mul_nonneg a0 b0
 have hl : a * b ≤ 2305843009213693951 * 2305843009213693951 := Int.mul_le_mul (by omega) (by omega) b0 (by omega)
 have e := fold_ev h (a * b / 18446744073709551616) (a * b % 18446744073709551616) (by omega) (by omega) (by omega) (by omega)
 rw [Int.mul_comm (a * b / 18446744073709551616),Int.mul_ediv_add_emod] at e
 refine (Ev.bind (f := fun k t => some t) e (Ev.now _)).congr fun k => ?_
 show (bits_Mul64.f a b).bind _ = _
 rw [mul64_eq a0 (by omega) b0 (by omega)]
 rfl
theorem and_one (n : Int) (h0 : 0 ≤ n) (h1 : n < 18446744073709551616) : Go.bits .and .u64 n 1 = n % 2 := by
 have := and_mask n.toNat (by omega) 1 (by decide)
 rw [Int.toNat_of_nonneg h0] at this
 rw [show (1 : Int) = ((2 ^ 1 - 1 : Nat) : Int) from by decide,this]
 omega
theorem mulm {p a a' b b' : Int} (h : a % p = a' % p) (k : b % p = b' % p) : a * b % p = a' * b' % p := by rw [Int.mul_emod,h,k,← Int.mul_emod]
theorem addm {p a a' b b' : Int} (h : a % p = a' % p) (k : b % p = b' % p) : (a + b) % p = (a' + b') % p := by rw [Int.add_emod,h,k,← Int.add_emod]
theorem modm (p a : Int) : a % p % p = a % p := Int.emod_emod_of_dvd _ (Int.dvd_refl p)
theorem pow_two_half (a : Int) (n : Nat) : a ^ n = (a * a) ^ (n / 2) * a ^ (n % 2) := by
 have h : a * a = a ^ 2 := by rw [Int.pow_succ,Int.pow_succ,Int.pow_zero,Int.one_mul]
 rw [h,← Int.pow_mul,← Int.pow_add];congr 1;omega
theorem pow_mod_base (a p : Int) : ∀ n : Nat,(a % p) ^ n % p = a ^ n % p
 | 0 => by rw [Int.pow_zero,Int.pow_zero]
 | n + 1 => by rw [Int.pow_succ,Int.pow_succ,Int.mul_emod,pow_mod_base a p n,Int.emod_emod_of_dvd _ (Int.dvd_refl p),← Int.mul_emod]
theorem pow_l0 {p : Int} (h : Supp p) : ∀ (n : Nat) (a out : Int),n < 18446744073709551616 → Res p a → Res p out → Ev (fun k => field_Pow.l0 k p a n out) (out * a ^ n % p) := by
 intro n
 induction n using Nat.strongRecOn with
 | _ n ih =>
  intro a out hn ha ho
  by_cases h0 : n = 0
  ·subst h0
   refine Ev.of (fun k => (field_Pow.mono_l k) _ _ _ _) (k := 1) ?_
   simp only [field_Pow.l0]
   rw [if_neg (by omega),Int.pow_zero,Int.mul_one,ho.eq]
  ·have hsq := mul_ev h ha ha
   have hrec := fun out' ho' => ih (n / 2) (by omega) (a * a % p) out' (by omega) (Res.mod h _) ho'
   have eh := pow_two_half a n
   have e1 := pow_mod_base (a * a) p (n / 2)
   by_cases hodd : n % 2 = 1
   ·refine Ev.step (f := fun k => (field_Mul.f k p out a).bind fun t244 => ((field_Mul.f k p a a).bind fun t245 => (field_Pow.l0 k p t245 ((n / 2 : Nat) : Int) t244))) (fun k => ?_) ?_
    ·simp only [field_Pow.l0]
     rw [if_pos (by omega),if_pos (by rw [and_one _ (by omega) (by omega)];omega)]
     rfl
    ·refine Ev.bind (mul_ev h ho ha) (Ev.bind hsq ?_)
     have := hrec (out * a % p) (Res.mod h _)
     rw [show out * a ^ n % p = out * a % p * (a * a % p) ^ (n / 2) % p from ?_]
     ·exact this
     ·rw [mulm (Int.emod_emod_of_dvd (out * a) (Int.dvd_refl p)) e1,eh,hodd,Int.pow_one,Int.mul_assoc,Int.mul_comm a ((a * a) ^ (n / 2))]
   ·refine Ev.step (f := fun k => (field_Mul.f k p a a).bind fun t246 => (field_Pow.l0 k p t246 ((n / 2 : Nat) : Int) out)) (fun k => ?_) ?_
    ·simp only [field_Pow.l0]
     rw [if_pos (by omega),if_neg (by rw [and_one _ (by omega) (by omega)];omega)]
     rfl
    ·refine Ev.bind hsq ?_
     have := hrec out ho
     rw [show out * a ^ n % p = out * (a * a % p) ^ (n / 2) % p from ?_]
     ·exact this
     ·rw [mulm (a := out) rfl e1,eh,show n % 2 = 0 from by omega,Int.pow_zero,Int.mul_one]
def invp (p a : Int) : Int := a ^ (p - 2).toNat % p
theorem inv_ev {p : Int} (h : Supp p) {a : Int} (ha : Res p a) (h0 : a ≠ 0) : Ev (fun k => field_Inverse.f k p a) (invp p a,0) := by
 have := h.bd
 have e := pow_l0 h (p - 2).toNat a 1 (by omega) ha ⟨by omega,by omega⟩
 rw [Int.one_mul,show ((p - 2).toNat : Int) = p - 2 from Int.toNat_of_nonneg (by omega)] at e
 refine (Ev.bind (f := fun k t => some (t,0)) e (Ev.now _)).congr fun k => ?_
 show (if a = 0 then _ else (field_Pow.f k p a (IntKind.u64.wrap (p - 2))).bind _) = _
 rw [if_neg h0,wrapU_id (by omega) (by omega)]
 rfl
theorem inv_spec {p : Int} (h : Supp p) {a : Int} (ha : Res p a) (h0 : a ≠ 0) : a * invp p a % p = 1 := by
 have := h.bd
 obtain ⟨a0,a1⟩ := ha
 have e := h.good.fermat a.toNat (by omega) (by omega)
 unfold invp
 rw [mulm rfl (modm p _),Int.mul_comm,← Int.pow_succ,show (p - 2).toNat.succ = p.toNat - 1 from by omega]
 have e2 : ((a.toNat ^ (p.toNat - 1) % p.toNat : Nat) : Int) = 1 := by rw [e];rfl
 rw [Int.natCast_emod,Int.natCast_pow,Int.toNat_of_nonneg a0,Int.toNat_of_nonneg (by omega)] at e2
 exact e2
theorem inv_res {p : Int} (h : Supp p) (a : Int) : Res p (invp p a) := Res.mod h _
theorem over_ev {p : Int} (h : Supp p) {a b : Int} (ha : Res p a) (hb : Res p b) (h0 : b ≠ 0) : Ev (fun k => interpolate_over.f k p a b) (a * invp p b % p) := by
 refine (Ev.bind (f := fun k (t : Int × Int) => (field_Mul.f k p a t.1).bind fun t119 => some t119) (inv_ev h hb h0) (Ev.bind (f := fun k t => some t) (mul_ev h ha (inv_res h b)) (Ev.now _))).congr fun k => rfl
end Go.Proofs.Ytmdoaijkaaaglaa.E
end
section
namespace Go.Proofs.Ytmdoaijkaaaglaa.Hw
open Go
section
variable {P : Program} {ops : Array Oper} {md : Region.Mode} {C : World → Prop}
def wpAnyLQ (P : Program) (md : Region.Mode) (ops : Array Oper) (C : World → Prop) (n : Nat) (L : Array Bool → Act → Prop) : Nat → Array Bool → Act → Prop
 | 0,listed,a => L listed a
 | f + 1,listed,a =>
  Region.ready md ops listed ≠ [] ∧ ∀ i ∈ Region.ready md ops listed,i < n ∧ qOp P ops C i (wpAnyLQ P md ops C n L f (listed.setIfInBounds i true)) a
theorem wpAny_of_headQ {n g : Nat} {L : Array Bool → Act → Prop} {Q' : Exit → Act → World → Prop} (hL : ∀ listed a w,C w → L listed a → wpAny P md ops Q' g listed a w) :
  ∀ (f : Nat) (listed : Array Bool) (a : Act) (w : World),C w → wpAnyLQ P md ops C n L f listed a → wpAny P md ops Q' (f + g) listed a w
 | 0,listed,a,w,hw,h => by rw [Nat.zero_add];exact hL _ _ _ hw h
 | f + 1,listed,a,w,hw,h => by
  rw [show f + 1 + g = (f + g) + 1 by omega]
  exact ⟨fun h0 => absurd h0 h.1,fun i hi => wpOp_of_qOp hw (fun a' w' hw' h' => wpAny_of_headQ hL f _ a' w' hw' h') (h.2 i hi).2⟩
theorem wpAnyLQ_first {n i : Nat} {oi : Oper} {v : Value} {L : Array Bool → Act → Prop} (hi : ops[i]? = some oi) (hsel : ∀ (j : Nat) (o : Oper) cs b,ops[j]? = some o → o.op ≠ .select cs b)
  (hs : Region.sinkB md ops n = true) (hc : Region.chainB md ops n = true) (hn : n < ops.size) (hin : i < n)
  (hdone : ∀ listed a,L listed a → ∀ j ∈ Region.ready md ops listed,n ≤ j) :
  ∀ (f : Nat) (listed : Array Bool) (a : Act),HeadInv md ops n listed →
   (∀ j oj,ops[j]? = some oj → j ≠ i → listed.getD j true = false → (∀ e ∈ oj.after,Region.binds md e = true → e.on ≠ i) → oi.apart ops oj = true) →
   i ∈ Region.ready md ops listed → YieldsIn P ops C oi v a →
   wpAnyLQ P md ops C n L f (listed.setIfInBounds i true) (a.put oi.dst v) → wpAnyLQ P md ops C n L (f + 1) listed a := by
 intro f
 induction f with
 | zero =>
  intro listed a inv _ hr hy H
  have hun := (mem_ready.1 hr).1
  refine ⟨fun h => (by rw [h] at hr;cases hr),fun j hj => ?_⟩
  have hjn : j < n := by
   rcases Nat.lt_or_ge j n with h|h
   ·exact h
   ·exact absurd hj (tail_waits hs hc hn inv _ i rfl hin hun j h)
  refine ⟨hjn,?_⟩
  by_cases hji : j = i
  ·subst hji;exact hy.qOp hi H
  ·have := hdone _ _ H j (ready_mono hj hji)
   omega
 | succ f ih =>
  intro listed a inv hfree hr hy H
  have hun := (mem_ready.1 hr).1
  refine ⟨fun h => (by rw [h] at hr;cases hr),fun j hj => ?_⟩
  have hjn : j < n := by
   rcases Nat.lt_or_ge j n with h|h
   ·exact h
   ·exact absurd hj (tail_waits hs hc hn inv _ i rfl hin hun j h)
  refine ⟨hjn,?_⟩
  by_cases hji : j = i
  ·subst hji;exact hy.qOp hi H
  ·have h1 := (H.2 j (ready_mono hj hji)).2
   obtain ⟨hjun,oj,hoj,hall⟩ := mem_ready.1 hj
   have hnot : ∀ e ∈ oj.after,Region.binds md e = true → e.on ≠ i := fun e he hb heq => by
    have h1 := hall e he hb
    rw [heq,getD_both hun] at h1
    cases h1
   have h2 := qOp_put hoj (hfree j oj hoj hji hjun hnot) (fun cs b => hsel i oi cs b hi) (fun cs b => hsel j oj cs b hoj) hy h1
   have hfree' : ∀ k ok,ops[k]? = some ok → k ≠ i → (listed.setIfInBounds j true).getD k true = false →
     (∀ e ∈ ok.after,Region.binds md e = true → e.on ≠ i) → oi.apart ops ok = true := fun k ok hk hki hun hno => by
    refine hfree k ok hk hki ?_ hno
    by_cases hjk : j = k
    ·subst hjk;exact hjun
    ·rw [getD_set_ne true hjk] at hun;exact hun
   refine qOp_mono (fun a' h3 => ih (listed.setIfInBounds j true) a' (inv.set hj hjn) hfree' (ready_mono hr (Ne.symm hji)) h3.1 ?_) h2
   rw [Array.setIfInBounds_comm _ _ hji]
   exact h3.2
theorem wpAnyLQ_lex {n g : Nat} {Lq : Act → Prop} (hsel : Region.noSelect ops = true) (hs : Region.sinkB md ops n = true) (hc : Region.chainB md ops n = true) (hn : n < ops.size) :
  ∀ (l : List Oper) (k : Nat) (listed : Array Bool) (a : Act),(∀ j,j < l.length → l[j]? = ops[k + j]?) → k + l.length = n → HeadInv md ops n listed →
  Region.lexHead md ops g l.length k listed = true → wpQuiet P ops C Lq l a →
  wpAnyLQ P md ops C n (fun listed' a' => Region.seqB md ops g n listed' = true ∧ Lq a') l.length listed a
 | [],k,listed,a,_,hk,_,hB,h => by
  have : k = n := by simpa using hk
  subst this
  exact ⟨by simpa [Region.lexHead] using hB,h⟩
 | o :: l,k,listed,a,hl,hk,inv,hB,h => by
  have h0 : ops[k]? = some o := by simpa using (hl 0 (by simp)).symm
  simp only [List.length_cons,Region.lexHead,Bool.and_eq_true] at hB
  obtain ⟨⟨hr,hf⟩,hB'⟩ := hB
  have hkn : k < n := by simp only [List.length_cons] at hk;omega
  have hr' : k ∈ Region.ready md ops listed := by simpa using hr
  have hst : qOp P ops C k (wpQuiet P ops C Lq l) a := by unfold qOp;simp only [h0];exact h
  obtain ⟨v,hy,hK⟩ := yieldsIn_of_qOp h0 hst
  exact wpAnyLQ_first h0 (Region.noSelect_spec hsel) hs hc hn hkn (fun listed' a' hL => seqB_ready hL.1) l.length listed a inv (Region.free_spec h0 hf) hr' hy
   (wpAnyLQ_lex hsel hs hc hn l (k + 1) _ _ (fun j hj => by have := hl (j + 1) (by simp;omega);simpa [Nat.add_assoc,Nat.add_comm 1 j] using this) (by simp only [List.length_cons] at hk;omega) (inv.set hr' hkn) hB' hK)
theorem wp_region_quiet_tail {id : Nat} {Q : Exit → Act → World → Prop} {a : Act} {w : World} {l : List Oper} (n : Nat) (hm : P.follows .mixedOrders = true) (hB : Region.lexTailB .any l.toArray n = true)
  (hC : C { w with drawn := w.drawn + 1 })
  (h : wpQuiet P l.toArray C (fun a' => ∀ w',C w' → wpList P l.toArray Q (l.drop n) a' w') (l.take n) a) : (Code.region id l.toArray true).wp P Q a w := by
 simp only [Region.lexTailB,Bool.and_eq_true,decide_eq_true_eq] at hB
 obtain ⟨⟨⟨⟨hsel,hn⟩,hs⟩,hc⟩,hlex⟩ := hB
 have hn' : n < l.length := by simpa using hn
 have htl : (l.take n).length = n := by simp;omega
 have hdl : (l.drop n).length = l.toArray.size - n := by simp
 have inv0 : HeadInv .any l.toArray n (Array.replicate l.toArray.size false) :=
  ⟨by simp,fun j oj _ hl => (by rw [getD_replicate_false] at hl;cases hl),fun t _ ht => getD_in (by simpa using ht) (getD_replicate_false _ _)⟩
 have H := wpAnyLQ_lex (md := .any) (g := l.toArray.size - n) hsel hs hc hn (l.take n) 0 _ a (fun j hj => by
  have hj' : j < n := by rw [htl] at hj;exact hj
  simp [hj']) (by simpa using htl) inv0 (by rw [htl];exact hlex) h
 refine wp_region_any hm ?_
 have := wpAny_of_headQ (Q' := Q) (g := l.toArray.size - n) (fun listed a' w' hw' hL => by
  have := wpAny_of_seq (md := .any) (Q' := Q) (l.drop n) n listed a' w' (fun j => by simp [List.getElem?_drop]) (by rw [hdl];exact hL.1) (hL.2 w' hw')
  rwa [hdl] at this) _ _ _ _ hC H
 rw [htl,show n + (l.toArray.size - n) = l.toArray.size by omega] at this
 exact this
theorem wp_region_quiet_tail_drawn {id : Nat} {Q : Exit → Act → World → Prop} {a : Act} {w : World} {l : List Oper} (n : Nat) (hm : P.follows .mixedOrders = true) (hB : Region.lexTailB .any l.toArray n = true)
  (h : wpQuiet P l.toArray (fun w' => ∃ m,w' = w.drewN m) (fun a' => ∀ w',(∃ m,w' = w.drewN m) → wpList P l.toArray Q (l.drop n) a' w') (l.take n) a) : (Code.region id l.toArray true).wp P Q a w :=
 wp_region_quiet_tail n hm hB ⟨1,rfl⟩ h
end
end Go.Proofs.Ytmdoaijkaaaglaa.Hw
end
