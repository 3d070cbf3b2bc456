/- Part 3 of the proof's texts, joined in build order. -/
import Derived.Test.YtmdoaijkaaaglaaZQ71
set_option linter.unusedVariables false
set_option linter.unusedSimpArgs false
section
namespace Go.Proofs.Ytmdoaijkaaaglaa.Pr
open Go.RowKit Go.Proofs.YtmdoaijkaaaglaaW.PrintWords Go.Proofs.YtmdoaijkaaaglaaW.PrintLast Go.Proofs.YtmdoaijkaaaglaaW.PrintMore
attribute [local go_sem] max2_int min2_int max_two min_two max_three min_three max_four min_four
open Go.Proofs.Ytmdoaijkaaaglaa.Hw
mutual
def slices_partitionOrdered_uint64.j1 : Nat → List Int → Int → Int → Int → Option (Int × Bool × List Int)
 | 0,_,_,_,_ => none
 | k + 1,x0,x1,x10,x11 => slices_partitionOrdered_uint64.l1 k x0 x1 x10 x11
def slices_partitionOrdered_uint64.j3 : Nat → List Int → Int → Int → Int → Option (Int × Bool × List Int)
 | 0,_,_,_,_ => none
 | k + 1,x0,x1,x10,x11 => if x10 > x11 then (if 0 ≤ x1 then (if x1 < (x0.length : Int) then (if 0 ≤ x11 then (if x11 < (x0.length : Int) then (some (x11,true,((x0.set (x11 : Int).toNat (rd x0 x1)).set (x1 : Int).toNat (rd x0 x11)))) else (none)) else (none)) else (none)) else (none)) else (if 0 ≤ x11 then (if x11 < (x0.length : Int) then (if 0 ≤ x10 then (if x10 < (x0.length : Int) then (slices_partitionOrdered_uint64.l2 k ((x0.set (x10 : Int).toNat (rd x0 x11)).set (x11 : Int).toNat (rd x0 x10)) x1 (wrap64 (x10 + 1)) (wrap64 (x11 - 1))) else (none)) else (none)) else (none)) else (none))
def slices_partitionOrdered_uint64.l2 : Nat → List Int → Int → Int → Int → Option (Int × Bool × List Int)
 | 0,_,_,_,_ => none
 | k + 1,x0,x1,x10,x11 => slices_partitionOrdered_uint64.l3 k x0 x1 x10 x11
def slices_partitionOrdered_uint64.j6 : Nat → List Int → Int → Int → Int → Option (Int × Bool × List Int)
 | 0,_,_,_,_ => none
 | k + 1,x0,x1,x10,x11 => slices_partitionOrdered_uint64.l4 k x0 x1 x10 x11
def slices_partitionOrdered_uint64.l4 : Nat → List Int → Int → Int → Int → Option (Int × Bool × List Int)
 | 0,_,_,_,_ => none
 | k + 1,x0,x1,x10,x11 => if x10 ≤ x11 then (if 0 ≤ x11 then (if x11 < (x0.length : Int) then (if 0 ≤ x1 then (if x1 < (x0.length : Int) then ((cmp_Less_uint64.f (rd x0 x11) (rd x0 x1)).bind fun t335 => (if t335 = true then (if x10 > x11 then (some (x11,false,((x0.set (x11 : Int).toNat (rd x0 x1)).set (x1 : Int).toNat (rd x0 x11)))) else (if 0 ≤ x10 then (if x10 < (x0.length : Int) then (slices_partitionOrdered_uint64.l2 k ((x0.set (x10 : Int).toNat (rd x0 x11)).set (x11 : Int).toNat (rd x0 x10)) x1 (wrap64 (x10 + 1)) (wrap64 (x11 - 1))) else (none)) else (none))) else (slices_partitionOrdered_uint64.l4 k x0 x1 x10 (wrap64 (x11 - 1))))) else (none)) else (none)) else (none)) else (none)) else (if x10 > x11 then (if 0 ≤ x1 then (if x1 < (x0.length : Int) then (if 0 ≤ x11 then (if x11 < (x0.length : Int) then (some (x11,false,((x0.set (x11 : Int).toNat (rd x0 x1)).set (x1 : Int).toNat (rd x0 x11)))) else (none)) else (none)) else (none)) else (none)) else (if 0 ≤ x11 then (if x11 < (x0.length : Int) then (if 0 ≤ x10 then (if x10 < (x0.length : Int) then (slices_partitionOrdered_uint64.l2 k ((x0.set (x10 : Int).toNat (rd x0 x11)).set (x11 : Int).toNat (rd x0 x10)) x1 (wrap64 (x10 + 1)) (wrap64 (x11 - 1))) else (none)) else (none)) else (none)) else (none)))
def slices_partitionOrdered_uint64.l3 : Nat → List Int → Int → Int → Int → Option (Int × Bool × List Int)
 | 0,_,_,_,_ => none
 | k + 1,x0,x1,x10,x11 => if x10 ≤ x11 then (if 0 ≤ x10 then (if x10 < (x0.length : Int) then (if 0 ≤ x1 then (if x1 < (x0.length : Int) then ((cmp_Less_uint64.f (rd x0 x10) (rd x0 x1)).bind fun t332 => (if t332 = true then (slices_partitionOrdered_uint64.l3 k x0 x1 (wrap64 (x10 + 1)) x11) else (slices_partitionOrdered_uint64.j6 k x0 x1 x10 x11))) else (none)) else (none)) else (none)) else (none)) else (slices_partitionOrdered_uint64.j6 k x0 x1 x10 x11)
def slices_partitionOrdered_uint64.l1 : Nat → List Int → Int → Int → Int → Option (Int × Bool × List Int)
 | 0,_,_,_,_ => none
 | k + 1,x0,x1,x10,x11 => if x10 ≤ x11 then (if 0 ≤ x11 then (if x11 < (x0.length : Int) then (if 0 ≤ x1 then (if x1 < (x0.length : Int) then ((cmp_Less_uint64.f (rd x0 x11) (rd x0 x1)).bind fun t321 => (if t321 = true then (slices_partitionOrdered_uint64.j3 k x0 x1 x10 x11) else (slices_partitionOrdered_uint64.l1 k x0 x1 x10 (wrap64 (x11 - 1))))) else (none)) else (none)) else (none)) else (none)) else (slices_partitionOrdered_uint64.j3 k x0 x1 x10 x11)
def slices_partitionOrdered_uint64.l0 : Nat → List Int → Int → Int → Int → Option (Int × Bool × List Int)
 | 0,_,_,_,_ => none
 | k + 1,x0,x1,x10,x11 => if x10 ≤ x11 then (if 0 ≤ x10 then (if x10 < (x0.length : Int) then (if 0 ≤ x1 then (if x1 < (x0.length : Int) then ((cmp_Less_uint64.f (rd x0 x10) (rd x0 x1)).bind fun t318 => (if t318 = true then (slices_partitionOrdered_uint64.l0 k x0 x1 (wrap64 (x10 + 1)) x11) else (slices_partitionOrdered_uint64.j1 k x0 x1 x10 x11))) else (none)) else (none)) else (none)) else (none)) else (slices_partitionOrdered_uint64.j1 k x0 x1 x10 x11)
end
def slices_partitionOrdered_uint64.f (k : Nat) (l0 : List Int) (a1 : Int) (a2 : Int) (a3 : Int) : Option (Int × Bool × List Int) := if 0 ≤ a3 then (if a3 < (l0.length : Int) then (if 0 ≤ a1 then (if a1 < (l0.length : Int) then (slices_partitionOrdered_uint64.l0 k ((l0.set (a1 : Int).toNat (rd l0 a3)).set (a3 : Int).toNat (rd l0 a1)) a1 (wrap64 (a1 + 1)) (wrap64 (a2 - 1))) else (none)) else (none)) else (none)) else (none)
def slices_partitionOrdered_uint64.T1 : Bool × List (List Nat × List Nat) := (true,[([],[]),([],[]),([],[]),([],[]),([],[]),([],[]),([4,5],[4,5]),([6],[6]),([],[]),([],[]),([8,9],[8,9]),([10],[10]),([0,1,0,1,4,5,6,7,11],[0,1]),([12,7,0,1,4,5,6,7,11],[7,12]),([2,3,0,1,2,3,4,5,6,7,8,9,10,11,12,13],[2,3]),([14,11,13,0,1,2,3,4,5,6,7,8,9,10,11,12,13],[11,14])])
def slices_partitionOrdered_uint64.B1 : List Nat := [0,0,0,0,0,0,48,112,0,0,768,1792,4083,8179,16383,32767]
theorem slices_partitionOrdered_uint64.tab1 : rtab .any (opsOf Try.f113 1) = slices_partitionOrdered_uint64.T1 := by kernel_rfl
theorem slices_partitionOrdered_uint64.bits1 : waitsOk slices_partitionOrdered_uint64.T1.2 slices_partitionOrdered_uint64.B1 = true := by kernel_rfl
def slices_partitionOrdered_uint64.T3 : Bool × List (List Nat × List Nat) := (true,[([],[]),([],[]),([0,1],[0,1]),([2],[2]),([3],[3]),([3],[3]),([4,5,3],[3,4,5]),([6,3],[3,6]),([3],[3]),([3],[3]),([8,9,3],[3,8,9]),([10,3],[3,10]),([7,11,3,3],[3,7,11]),([3,12],[3,12])])
def slices_partitionOrdered_uint64.B3 : List Nat := [0,0,3,7,15,15,63,127,15,15,783,1807,4095,8191]
theorem slices_partitionOrdered_uint64.tab3 : rtab .any (opsOf Try.f113 3) = slices_partitionOrdered_uint64.T3 := by kernel_rfl
theorem slices_partitionOrdered_uint64.bits3 : waitsOk slices_partitionOrdered_uint64.T3.2 slices_partitionOrdered_uint64.B3 = true := by kernel_rfl
def slices_partitionOrdered_uint64.T5 : Bool × List (List Nat × List Nat) := (true,[([],[]),([],[]),([0,1],[0,1]),([2],[2]),([3],[3]),([3],[3]),([4,5,3],[3,4,5]),([6,3],[3,6]),([3],[3]),([3],[3]),([8,9,3],[3,8,9]),([10,3],[3,10]),([7,11,3,3],[3,7,11]),([12,3],[3,12]),([3,13],[3,13])])
def slices_partitionOrdered_uint64.B5 : List Nat := [0,0,3,7,15,15,63,127,15,15,783,1807,4095,8191,16383]
theorem slices_partitionOrdered_uint64.tab5 : rtab .any (opsOf Try.f113 5) = slices_partitionOrdered_uint64.T5 := by kernel_rfl
theorem slices_partitionOrdered_uint64.bits5 : waitsOk slices_partitionOrdered_uint64.T5.2 slices_partitionOrdered_uint64.B5 = true := by kernel_rfl
def slices_partitionOrdered_uint64.T8 : Bool × List (List Nat × List Nat) := (true,[([],[]),([],[]),([],[]),([],[]),([],[]),([],[]),([4,5],[4,5]),([6],[6]),([],[]),([],[]),([8,9],[8,9]),([10],[10]),([0,1,0,1,4,5,6,7,11],[0,1]),([12,7,0,1,4,5,6,7,11],[7,12]),([2,3,0,1,2,3,4,5,6,7,8,9,10,11,12,13],[2,3]),([14,11,13,0,1,2,3,4,5,6,7,8,9,10,11,12,13],[11,14])])
def slices_partitionOrdered_uint64.B8 : List Nat := [0,0,0,0,0,0,48,112,0,0,768,1792,4083,8179,16383,32767]
theorem slices_partitionOrdered_uint64.tab8 : rtab .any (opsOf Try.f113 8) = slices_partitionOrdered_uint64.T8 := by kernel_rfl
theorem slices_partitionOrdered_uint64.bits8 : waitsOk slices_partitionOrdered_uint64.T8.2 slices_partitionOrdered_uint64.B8 = true := by kernel_rfl
def slices_partitionOrdered_uint64.T10 : Bool × List (List Nat × List Nat) := (true,[([],[]),([],[]),([],[]),([],[]),([],[]),([],[]),([4,5],[4,5]),([6],[6]),([],[]),([],[]),([8,9],[8,9]),([10],[10]),([0,1,0,1,4,5,6,7,11],[0,1]),([12,7,0,1,4,5,6,7,11],[7,12]),([2,3,0,1,2,3,4,5,6,7,8,9,10,11,12,13],[2,3]),([14,11,13,0,1,2,3,4,5,6,7,8,9,10,11,12,13],[11,14])])
def slices_partitionOrdered_uint64.B10 : List Nat := [0,0,0,0,0,0,48,112,0,0,768,1792,4083,8179,16383,32767]
theorem slices_partitionOrdered_uint64.tab10 : rtab .any (opsOf Try.f113 10) = slices_partitionOrdered_uint64.T10 := by kernel_rfl
theorem slices_partitionOrdered_uint64.bits10 : waitsOk slices_partitionOrdered_uint64.T10.2 slices_partitionOrdered_uint64.B10 = true := by kernel_rfl
def slices_partitionOrdered_uint64.T13 : Bool × List (List Nat × List Nat) := (true,[([],[]),([],[]),([0,1],[0,1]),([2],[2]),([3],[3]),([3],[3]),([4,5,3],[3,4,5]),([6,3],[3,6]),([3],[3]),([3],[3]),([8,9,3],[3,8,9]),([10,3],[3,10]),([7,11,3,3],[3,7,11]),([3,12],[3,12])])
def slices_partitionOrdered_uint64.B13 : List Nat := [0,0,3,7,15,15,63,127,15,15,783,1807,4095,8191]
theorem slices_partitionOrdered_uint64.tab13 : rtab .any (opsOf Try.f113 13) = slices_partitionOrdered_uint64.T13 := by kernel_rfl
theorem slices_partitionOrdered_uint64.bits13 : waitsOk slices_partitionOrdered_uint64.T13.2 slices_partitionOrdered_uint64.B13 = true := by kernel_rfl
def slices_partitionOrdered_uint64.T15 : Bool × List (List Nat × List Nat) := (true,[([],[]),([],[]),([0,1],[0,1]),([2],[2]),([3],[3]),([3],[3]),([4,5,3],[3,4,5]),([6,3],[3,6]),([3],[3]),([3],[3]),([8,9,3],[3,8,9]),([10,3],[3,10]),([7,11,3,3],[3,7,11]),([12,3],[3,12]),([3,13],[3,13])])
def slices_partitionOrdered_uint64.B15 : List Nat := [0,0,3,7,15,15,63,127,15,15,783,1807,4095,8191,16383]
theorem slices_partitionOrdered_uint64.tab15 : rtab .any (opsOf Try.f113 15) = slices_partitionOrdered_uint64.T15 := by kernel_rfl
theorem slices_partitionOrdered_uint64.bits15 : waitsOk slices_partitionOrdered_uint64.T15.2 slices_partitionOrdered_uint64.B15 = true := by kernel_rfl
def slices_partitionOrdered_uint64.T18 : Bool × List (List Nat × List Nat) := (true,[([],[]),([],[]),([],[]),([],[]),([],[]),([],[]),([4,5],[4,5]),([6],[6]),([],[]),([],[]),([8,9],[8,9]),([10],[10]),([0,1,0,1,4,5,6,7,11],[0,1]),([12,7,0,1,4,5,6,7,11],[7,12]),([2,3,0,1,2,3,4,5,6,7,8,9,10,11,12,13],[2,3]),([14,11,13,0,1,2,3,4,5,6,7,8,9,10,11,12,13],[11,14])])
def slices_partitionOrdered_uint64.B18 : List Nat := [0,0,0,0,0,0,48,112,0,0,768,1792,4083,8179,16383,32767]
theorem slices_partitionOrdered_uint64.tab18 : rtab .any (opsOf Try.f113 18) = slices_partitionOrdered_uint64.T18 := by kernel_rfl
theorem slices_partitionOrdered_uint64.bits18 : waitsOk slices_partitionOrdered_uint64.T18.2 slices_partitionOrdered_uint64.B18 = true := by kernel_rfl
def slices_partitionOrdered_uint64.T21 : Bool × List (List Nat × List Nat) := (true,[([],[]),([],[]),([],[]),([],[]),([],[]),([],[]),([4,5],[4,5]),([6],[6]),([],[]),([],[]),([8,9],[8,9]),([10],[10]),([0,1,0,1,4,5,6,7,11],[0,1]),([12,7,0,1,4,5,6,7,11],[7,12]),([2,3,0,1,2,3,4,5,6,7,8,9,10,11,12,13],[2,3]),([14,11,13,0,1,2,3,4,5,6,7,8,9,10,11,12,13],[11,14])])
def slices_partitionOrdered_uint64.B21 : List Nat := [0,0,0,0,0,0,48,112,0,0,768,1792,4083,8179,16383,32767]
theorem slices_partitionOrdered_uint64.tab21 : rtab .any (opsOf Try.f113 21) = slices_partitionOrdered_uint64.T21 := by kernel_rfl
theorem slices_partitionOrdered_uint64.bits21 : waitsOk slices_partitionOrdered_uint64.T21.2 slices_partitionOrdered_uint64.B21 = true := by kernel_rfl
set_option maxHeartbeats 8000000 in
set_option maxRecDepth 100000 in
theorem slices_partitionOrdered_uint64.calls (k : Nat) (P0_ : Nat → Prop) (u9000_ : Value) (l0 : List Int) (a1 : Int) (a2 : Int) (a3 : Int) (r1 : Int) (r2 : Bool) (r3 : List Int) (w0 w : World) (hB : Below w0.heap.size w0 w) (ho0 : Kd.R (Kd.int .u64) 22 w w0.heap.size P0_ u9000_ l0) (h : slices_partitionOrdered_uint64.f k l0 a1 a2 a3 = some (r1,r2,r3)) :
  Calls Try.prog 113 #[u9000_,.int .i64 a1,.int .i64 a2,.int .i64 a3] w fun e w' => e = .returned (.tuple #[.int .i64 r1,.bool r2]) ∧ Kd.R (Kd.int .u64) 22 w' w0.heap.size (fun k_ => (P0_ k_ ∨ w.heap.size ≤ k_)) u9000_ r3 ∧ Below w0.heap.size w0 w' ∧ Kept w w' (fun k_ => P0_ k_) := by
 have HO0 := am (show Kd.R (Kd.int .u64) 22 w w0.heap.size (fun k_ => (P0_ k_ ∨ w.heap.size ≤ k_)) u9000_ l0 from Kd.R_mono ho0 (fun k_ hk => (.inl hk)))
 have HK := am (Kept.refl w (fun k_ => P0_ k_))
 have HW0 := am hB.size
 have HB := am hB
 clear hB
 have H : (if 0 ≤ a3 then (if a3 < (l0.length : Int) then (if 0 ≤ a1 then (if a1 < (l0.length : Int) then (slices_partitionOrdered_uint64.l0 k ((l0.set (a1 : Int).toNat (rd l0 a3)).set (a3 : Int).toNat (rd l0 a1)) a1 (wrap64 (a1 + 1)) (wrap64 (a2 - 1))) else (none)) else (none)) else (none)) else (none)) = some (r1,r2,r3) := h
 clear h
 by_cases c5 : 0 ≤ a3
 ·rw [if_pos c5] at H
  have c5b0 : decide (0 ≤ a3) = true := decide_eq_true c5
  clear c5
  by_cases c6 : a3 < (l0.length : Int)
  ·rw [if_pos c6] at H
   have c6b0 : decide (a3 < (l0.length : Int)) = true := decide_eq_true c6
   clear c6
   by_cases c7 : 0 ≤ a1
   ·rw [if_pos c7] at H
    have c7b0 : decide (0 ≤ a1) = true := decide_eq_true c7
    clear c7
    by_cases c8 : a1 < (l0.length : Int)
    ·rw [if_pos c8] at H
     have c8b0 : decide (a1 < (l0.length : Int)) = true := decide_eq_true c8
     clear c8
     obtain ⟨y314,hy314⟩ : ∃ y_ : List Int,y_ = (l0.set (a1 : Int).toNat (rd l0 a3)) := ⟨_,rfl⟩
     replace H : (slices_partitionOrdered_uint64.l0 k (y314.set (a3 : Int).toNat (rd l0 a1)) a1 (wrap64 (a1 + 1)) (wrap64 (a2 - 1))) = some (r1,r2,r3) := by first|(rw [hy314];with_reducible exact H)|(have H2_ := (Option.bind_some _ _).symm.trans H;rw [hy314];with_reducible exact H2_)|(have H2_ := (Option.bind_some _ _).symm.trans H;with_reducible exact H2_)|with_reducible exact H|(rw [hy314];exact H)|exact H
     have Ny314 := am hy314
     clear hy314
     obtain ⟨y315,hy315⟩ : ∃ y_ : List Int,y_ = (y314.set (a3 : Int).toNat (rd l0 a1)) := ⟨_,rfl⟩
     replace H : (slices_partitionOrdered_uint64.l0 k y315 a1 (wrap64 (a1 + 1)) (wrap64 (a2 - 1))) = some (r1,r2,r3) := by first|(rw [hy315];with_reducible exact H)|(have H2_ := (Option.bind_some _ _).symm.trans H;rw [hy315];with_reducible exact H2_)|(have H2_ := (Option.bind_some _ _).symm.trans H;with_reducible exact H2_)|with_reducible exact H|(rw [hy315];exact H)|exact H
     have Ny315 := am hy315
     clear hy315
     have HC11 := am H
     clear H
     go_enter Try.func113,Try.ntmps113
     try go_wp2
     have n0_ := am (Kd.R_drew HO0.out)
     have n1_ := am (Kept.drew HK.out)
     have n2_ := am (below_drew1 HB.out)
     clear HO0
     clear HK
     clear HB
     have HO0 := n0_
     have HK := n1_
     have HB := n2_
     clear n0_ n1_ n2_
     obtain ⟨Ao13,co13,eo13⟩ := Kd.R_slice HO0.out
     (first|subst eo13|(injection eo13 with f1_ f2_ f3_;have f4_ := f1_.symm;have f5_ := f3_.symm;clear f1_ f2_ f3_;subst f4_;subst f5_))
     have p312 : 0 ≤ (a3 : Int) := od
     have q312 : a3 < (l0.length : Int) := od
     obtain ⟨ad312,e312,hx312_0⟩ := Kd.at_int (Kd.R_reads' HO0.out).2.2 a3 p312 q312
     cases e312
     replace p312 := eq_true p312
     replace q312 := eq_true q312
     have p313 : 0 ≤ (a1 : Int) := od
     have q313 : a1 < (l0.length : Int) := od
     obtain ⟨ad313,e313,hx313_0⟩ := Kd.at_int (Kd.R_reads' HO0.out).2.2 a1 p313 q313
     obtain rfl : ad312 = ad313 := (by injection e313)
     replace p313 := eq_true p313
     replace q313 := eq_true q313
     have p9 : 0 ≤ (a1 : Int) := od
     have q9 : (a1 : Int) < ((l0.length : Int) : Int) := od
     obtain ⟨go9,co9,eo9,gb9,gl9,cl9,HG9⟩ := Kd.R_form HO0.out (by omega)
     (first|cases eo9|(injection eo9 with ea_ en_ ec_;(first|subst ea_|(injection ea_ with ea_;subst ea_));subst ec_;clear en_))
     have GB9 := am gb9
     have GG9 := am HG9
     clear gb9 gl9 HG9
     have HMgo9 := am (show (P0_ go9 ∨ w.heap.size ≤ go9) from (HO0.out.1 _ rfl))
     (first|simp only [add_plain] at hx312_0|skip)
     (first|simp only [add_plain] at hx313_0|skip)
     obtain ⟨hx9_0,hf9_0⟩ := Kd.R_celln 0 HO0.out (a1 : Int) p9 q9
     replace p9 := eq_true p9
     replace q9 := eq_true q9
     have HP14 := Kd.R_putn HO0.out (a1 : Int) (rd l0 a3)
     rw [← Ny314.out] at HP14
     have HQ14 := am HP14
     clear HP14
     have p10 : 0 ≤ (a3 : Int) := od
     have q10 : (a3 : Int) < ((l0.length : Int) : Int) := od
     obtain ⟨hx10_0,hf10_0⟩ := Kd.R_celln 0 HQ14.out (a3 : Int) p10 q10
     replace p10 := eq_true p10
     replace q10 := eq_true q10
     have HP15 := Kd.R_putn HQ14.out (a3 : Int) (rd l0 a1)
     rw [← Ny315.out] at HP15
     have HQ15 := am HP15
     clear HP15
     refine start_ (n := 16) (S := fun w' => w'.cell? ⟨go9,(a3).toNat,none⟩ = some (.int .u64 (rd l0 a3)) ∧ w'.cell? ⟨go9,(a1).toNat,none⟩ = some (.int .u64 (rd l0 a1))) (ds := [13,15]) (bz 16 0) (by kernel_rfl) rfl rfl ⟨hx312_0,hx313_0⟩ (fun hHeld => ?_);refine with_tabW slices_partitionOrdered_uint64.tab1 slices_partitionOrdered_uint64.bits1 (fun HT_ HW_ => ?_)
     generalize w.drew = w12 at HO0 HK HB GG9 HQ14 HQ15 hf10_0 hf9_0 hx10_0 hx312_0 hx313_0 hx9_0 hHeld ⊢
     refine pk 0 12 (bz 16 1) HT_ ?_
     refine pk 1 13 (bz 16 3) HT_ ?_
     refine pk 2 14 (bz 16 7) HT_ ?_
     refine pk 3 15 (bz 16 15) HT_ ?_
     refine pk 4 16 (bz 16 31) HT_ ?_
     refine pk 5 17 (bz 16 63) HT_ ?_
     refine pk 6 18 (bz 16 127) HT_ ?_
     refine pk 8 20 (bz 16 383) HT_ ?_
     refine pk 9 21 (bz 16 895) HT_ ?_
     refine pk 10 22 (bz 16 1919) HT_ ?_
     refine tk 7 19 (bz 16 2047) HT_ HW_ hHeld ?_
     refine tk 11 23 (bz 16 4095) HT_ HW_ hHeld ?_
     refine pk 12 24 (bz 16 8191) HT_ ?_
     refine last_ (i := 13) (N := none) (bz 16 16383) rfl rfl (one_of HT_.out (by kernel_rfl)) (by decide) (fun K hK => ?_)
     refine skip_ (w1 := ?_) (by rfl) rfl ?_ ?_
     rotate_left
     ·go_simp
      rfl
     refine hK.out _ _ ?_
     clear hK K
     refine pk 14 25 (bz 16 32767) HT_ ?_
     refine last_ (i := 15) (N := none) (bz 16 65535) rfl rfl (one_of HT_.out (by kernel_rfl)) (by decide) (fun K hK => ?_)
     refine skip_ (w1 := ?_) (by rfl) rfl ?_ ?_
     rotate_left
     ·go_simp
      rfl
     refine hK.out _ _ ?_
     clear hK K
     refine done_ (done_of HT_.out (by kernel_rfl)) ?_
     go_upto_block 0 with (fail)
     go_cut [10] (fun v10 wc => ∃ (kq : Nat) (x10_10 : Int),v10 = .int .i64 x10_10 ∧ Aside0 (slices_partitionOrdered_uint64.j1 kq y315 a1 x10_10 (wrap64 (a2 - 1)) = some (r1,r2,r3)) ∧ Aside0 (kq ≤ k) ∧ Aside0 (Kd.R (Kd.int .u64) 22 wc w0.heap.size (fun k_ => (P0_ k_ ∨ w.heap.size ≤ k_)) (.slice (some ⟨go9,0,none⟩) l0.length co13) y315) ∧ Aside0 (Kept w wc (fun k_ => P0_ k_)) ∧ Aside0 (Below w0.heap.size w0 wc))
     case first =>
      have H := HC11.out
      clear HC11
      have H' := am H
      clear H
      go_wp2
      go_loopg [10] k (fun kq v10 w' => ∃ (x10_1 : Int),v10 = .int .i64 x10_1 ∧ Aside0 (slices_partitionOrdered_uint64.l0 kq y315 a1 x10_1 (wrap64 (a2 - 1)) = some (r1,r2,r3)) ∧ Aside0 (kq ≤ k) ∧ Aside0 (Kd.R (Kd.int .u64) 22 w' w0.heap.size (fun k_ => (P0_ k_ ∨ w.heap.size ≤ k_)) (.slice (some ⟨go9,0,none⟩) l0.length co13) y315) ∧ Aside0 (Kept w w' (fun k_ => P0_ k_)) ∧ Aside0 (Below w0.heap.size w0 w'))
      case atStart => exact ⟨(wrap64 (a1 + 1)),(by first|rfl|(simp;done)|(simp [*];done)),H',⟨Nat.le_refl _⟩,⟨by (with_reducible repeat (first|apply Kd.R_alloc|apply Kd.R_drewN|apply Kd.R_drew));exact HQ15.out⟩,⟨by repeat (first|(with_reducible first|exact HK.out|apply Kept.alloc|apply Kept.drewN|apply Kept.drew|refine Kept.setCell ?_ HMgo9.out _|refine Kept.setCell ?_ HMgo9.out _)|exact HK.out)⟩,⟨by repeat (first|(with_reducible first|exact HB.out|apply below_alloc|apply pw_below_drewN|apply below_drew1|refine below_set ?_ GB9.out|refine below_set ?_ GB9.out)|exact HB.out)⟩⟩
      case round =>
       clear H'
       try clear c1
       try clear p1
       try clear q1
       try clear hx1
       try clear p2
       try clear p3
       try clear q3
       try clear hx3
       try clear c5
       try clear c5b0
       try clear c6
       try clear c6b0
       try clear p6
       try clear c7
       try clear c7b0
       try clear c8
       try clear c8b0
       try clear p9
       try clear q9
       try clear hx9
       try clear hf9
       try clear p10
       try clear q10
       try clear hx10
       try clear hf10
       try clear c11
       try clear hx10_0
       try clear hx312_0
       try clear hx313_0
       try clear hx9_0
       try clear p10
       try clear p312
       try clear p313
       try clear p9
       try clear q10
       try clear q312
       try clear q313
       try clear q9
       obtain ⟨x10_1,rfl,HA,HK1,HO_0,HK,HB⟩ := hrel
       have hl0_1 := (Kd.R_reads' HO_0.out).1
       rw [hl0_1] at HO_0
       (try simp only [hl0_1])
       cases gk with
       | zero => exact absurd HA.out (by simp [slices_partitionOrdered_uint64.l0])
       | succ k1 =>
        have H := HA.out
        clear HA
        simp only [slices_partitionOrdered_uint64.l0] at H
        by_cases c16 : x10_1 ≤ (wrap64 (a2 - 1))
        ·rw [if_pos c16] at H
         have c16b0 : decide (x10_1 ≤ (wrap64 (a2 - 1))) = true := decide_eq_true c16
         clear c16
         (first|rw [c16b0]|(simp only [i64_w,i32_w];rw [c16b0])|skip)
         by_cases c17 : 0 ≤ x10_1
         ·rw [if_pos c17] at H
          have c17b0 : decide (0 ≤ x10_1) = true := decide_eq_true c17
          clear c17
          by_cases c18 : x10_1 < (y315.length : Int)
          ·rw [if_pos c18] at H
           have c18b0 : decide (x10_1 < (y315.length : Int)) = true := decide_eq_true c18
           clear c18
           by_cases c19 : 0 ≤ a1
           ·rw [if_pos c19] at H
            have c19b0 : decide (0 ≤ a1) = true := decide_eq_true c19
            clear c19
            by_cases c20 : a1 < (y315.length : Int)
            ·rw [if_pos c20] at H
             have c20b0 : decide (a1 < (y315.length : Int)) = true := decide_eq_true c20
             clear c20
             replace H := Option.bind_eq_some_iff.mp H
             obtain ⟨t318,A210,H⟩ := H
             try dsimp only at H
             have A21 := am A210
             clear A210
             by_cases c22 : t318 = true
             ·subst c22
              rw [if_pos rfl] at H
              have H' := am H
              clear H
              try go_wp2
              have n0_ := am (Kd.R_drew HO_0.out)
              have n1_ := am (Kept.drew HK.out)
              have n2_ := am (below_drew1 HB.out)
              clear HO_0
              clear HK
              clear HB
              have HO_0 := n0_
              have HK := n1_
              have HB := n2_
              clear n0_ n1_ n2_
              have p316 : 0 ≤ (x10_1 : Int) := od
              have q316 : x10_1 < (y315.length : Int) := od
              obtain ⟨ad316,e316,hx316_0⟩ := Kd.at_int (Kd.R_reads' HO_0.out).2.2 x10_1 p316 q316
              obtain rfl : (⟨go9,0,none⟩ : Addr) = ad316 := (by injection e316)
              (first|simp only [add_plain] at hx316_0|simp only [add_at] at hx316_0|simp only [Addr.add,Nat.zero_add] at hx316_0|skip)
              replace p316 := eq_true p316
              replace q316 := eq_true q316
              have p317 : 0 ≤ (a1 : Int) := od
              have q317 : a1 < (y315.length : Int) := od
              obtain ⟨ad317,e317,hx317_0⟩ := Kd.at_int (Kd.R_reads' HO_0.out).2.2 a1 p317 q317
              obtain rfl : (⟨go9,0,none⟩ : Addr) = ad317 := (by injection e317)
              (first|simp only [add_plain] at hx317_0|simp only [add_at] at hx317_0|simp only [Addr.add,Nat.zero_add] at hx317_0|skip)
              replace p317 := eq_true p317
              replace q317 := eq_true q317
              refine start_ (n := 14) (S := fun w' => w'.cell? ⟨go9,(x10_1).toNat,none⟩ = some (.int .u64 (rd y315 x10_1)) ∧ w'.cell? ⟨go9,(a1).toNat,none⟩ = some (.int .u64 (rd y315 a1))) (ds := []) (bz 14 0) (by kernel_rfl) rfl rfl ⟨hx316_0,hx317_0⟩ (fun hHeld => ?_);refine with_tabW slices_partitionOrdered_uint64.tab3 slices_partitionOrdered_uint64.bits3 (fun HT_ HW_ => ?_)
              generalize wr.drew = w23 at HO_0 HK HB hx316_0 hx317_0 hHeld ⊢
              refine pk 0 30 (bz 14 1) HT_ ?_
              refine pk 1 31 (bz 14 3) HT_ ?_
              refine pk 2 32 (bz 14 7) HT_ ?_
              refine pk 3 33 (bz 14 15) HT_ ?_
              refine pk 4 34 (bz 14 31) HT_ ?_
              refine pk 5 35 (bz 14 63) HT_ ?_
              refine pk 6 36 (bz 14 127) HT_ ?_
              refine pk 8 38 (bz 14 383) HT_ ?_
              refine pk 9 39 (bz 14 895) HT_ ?_
              refine pk 10 40 (bz 14 1919) HT_ ?_
              refine tk 7 37 (bz 14 2047) HT_ HW_ hHeld ?_
              refine tk 11 41 (bz 14 4095) HT_ HW_ hHeld ?_
              refine on 12 42 (bz 14 8191) HT_ (fun K hK => ?_)
              refine goes_ Try.func111 (by kernel_rfl) rfl #[.int .u64 (rd y315 x10_1),.int .u64 (rd y315 a1)] (by rfl) rfl rfl (by (try simp only [List.map_toArray,List.map_cons,List.map_nil]);first|done|rfl|(simp only [List.length_drop,List.length_take];rfl)) ?_
              with_reducible refine (cmp_Less_uint64.calls (rd y315 x10_1) (rd y315 a1) true _ A21.out).mono ?_
              rintro e w' ⟨rfl,⟨nd,rfl⟩⟩
              refine ⟨_,rfl,?_⟩
              refine hK.out _ _ ⟨hHeld.1,hHeld.2⟩ (fun hHeld => ?_)
              clear hK K
              refine nm 42 ?_
              refine pk 13 43 (bz 14 16383) HT_ ?_
              refine done_ (done_of HT_.out (by kernel_rfl)) ?_
              try go_wp2
              (try simp only [← hl0_1])
              go_roundg k1
              case measure => have := HK1.out;omega
              case rel => exact ⟨(wrap64 (x10_1 + 1)),(by first|rfl|(simp;done)|(simp [*];done)),H',⟨by have := HK1.out;omega⟩,⟨by (try simp only [hl0_1]);(with_reducible repeat (first|apply Kd.R_alloc|apply Kd.R_drewN|apply Kd.R_drew));exact HO_0.out⟩,⟨by repeat (first|(with_reducible first|exact HK.out|apply Kept.alloc|apply Kept.drewN|apply Kept.drew)|exact HK.out)⟩,⟨bb HB⟩⟩
             ·replace c22 := Bool.eq_false_iff.mpr c22
              subst c22
              rw [if_neg (show ¬ (false = true) by decide)] at H
              have H' := am H
              clear H
              try go_wp2
              have n0_ := am (Kd.R_drew HO_0.out)
              have n1_ := am (Kept.drew HK.out)
              have n2_ := am (below_drew1 HB.out)
              clear HO_0
              clear HK
              clear HB
              have HO_0 := n0_
              have HK := n1_
              have HB := n2_
              clear n0_ n1_ n2_
              have p316 : 0 ≤ (x10_1 : Int) := od
              have q316 : x10_1 < (y315.length : Int) := od
              obtain ⟨ad316,e316,hx316_0⟩ := Kd.at_int (Kd.R_reads' HO_0.out).2.2 x10_1 p316 q316
              obtain rfl : (⟨go9,0,none⟩ : Addr) = ad316 := (by injection e316)
              (first|simp only [add_plain] at hx316_0|simp only [add_at] at hx316_0|simp only [Addr.add,Nat.zero_add] at hx316_0|skip)
              replace p316 := eq_true p316
              replace q316 := eq_true q316
              have p317 : 0 ≤ (a1 : Int) := od
              have q317 : a1 < (y315.length : Int) := od
              obtain ⟨ad317,e317,hx317_0⟩ := Kd.at_int (Kd.R_reads' HO_0.out).2.2 a1 p317 q317
              obtain rfl : (⟨go9,0,none⟩ : Addr) = ad317 := (by injection e317)
              (first|simp only [add_plain] at hx317_0|simp only [add_at] at hx317_0|simp only [Addr.add,Nat.zero_add] at hx317_0|skip)
              replace p317 := eq_true p317
              replace q317 := eq_true q317
              refine start_ (n := 14) (S := fun w' => w'.cell? ⟨go9,(x10_1).toNat,none⟩ = some (.int .u64 (rd y315 x10_1)) ∧ w'.cell? ⟨go9,(a1).toNat,none⟩ = some (.int .u64 (rd y315 a1))) (ds := []) (bz 14 0) (by kernel_rfl) rfl rfl ⟨hx316_0,hx317_0⟩ (fun hHeld => ?_);refine with_tabW slices_partitionOrdered_uint64.tab3 slices_partitionOrdered_uint64.bits3 (fun HT_ HW_ => ?_)
              generalize wr.drew = w24 at HO_0 HK HB hx316_0 hx317_0 hHeld ⊢
              refine pk 0 30 (bz 14 1) HT_ ?_
              refine pk 1 31 (bz 14 3) HT_ ?_
              refine pk 2 32 (bz 14 7) HT_ ?_
              refine pk 3 33 (bz 14 15) HT_ ?_
              refine pk 4 34 (bz 14 31) HT_ ?_
              refine pk 5 35 (bz 14 63) HT_ ?_
              refine pk 6 36 (bz 14 127) HT_ ?_
              refine pk 8 38 (bz 14 383) HT_ ?_
              refine pk 9 39 (bz 14 895) HT_ ?_
              refine pk 10 40 (bz 14 1919) HT_ ?_
              refine tk 7 37 (bz 14 2047) HT_ HW_ hHeld ?_
              refine tk 11 41 (bz 14 4095) HT_ HW_ hHeld ?_
              refine on 12 42 (bz 14 8191) HT_ (fun K hK => ?_)
              refine goes_ Try.func111 (by kernel_rfl) rfl #[.int .u64 (rd y315 x10_1),.int .u64 (rd y315 a1)] (by rfl) rfl rfl (by (try simp only [List.map_toArray,List.map_cons,List.map_nil]);first|done|rfl|(simp only [List.length_drop,List.length_take];rfl)) ?_
              with_reducible refine (cmp_Less_uint64.calls (rd y315 x10_1) (rd y315 a1) false _ A21.out).mono ?_
              rintro e w' ⟨rfl,⟨nd,rfl⟩⟩
              refine ⟨_,rfl,?_⟩
              refine hK.out _ _ ⟨hHeld.1,hHeld.2⟩ (fun hHeld => ?_)
              clear hK K
              refine nm 42 ?_
              refine pk 13 43 (bz 14 16383) HT_ ?_
              refine done_ (done_of HT_.out (by kernel_rfl)) ?_
              try go_wp2
              (try simp only [← hl0_1])
              go_meet
              case rel => exact ⟨_,(x10_1),(by first|rfl|(simp;done)|(simp [*];done)),H',⟨by have := HK1.out;first|omega|exact Nat.le_refl _⟩,⟨by (try simp only [hl0_1]);(with_reducible repeat (first|apply Kd.R_alloc|apply Kd.R_drewN|apply Kd.R_drew));exact HO_0.out⟩,⟨by repeat (first|(with_reducible first|exact HK.out|apply Kept.alloc|apply Kept.drewN|apply Kept.drew)|exact HK.out)⟩,⟨bb HB⟩⟩
            ·rw [if_neg c20] at H
             exact absurd H (by simp)
           ·rw [if_neg c19] at H
            exact absurd H (by simp)
          ·rw [if_neg c18] at H
           exact absurd H (by simp)
         ·rw [if_neg c17] at H
          exact absurd H (by simp)
        ·rw [if_neg c16] at H
         have c16b0 : decide (x10_1 ≤ (wrap64 (a2 - 1))) = false := decide_eq_false c16
         clear c16
         (first|rw [c16b0]|(simp only [i64_w,i32_w];rw [c16b0])|skip)
         have H' := am H
         clear H
         try go_wp2
         have n0_ := am (Kd.R_drew HO_0.out)
         have n1_ := am (Kept.drew HK.out)
         have n2_ := am (below_drew1 HB.out)
         clear HO_0
         clear HK
         clear HB
         have HO_0 := n0_
         have HK := n1_
         have HB := n2_
         clear n0_ n1_ n2_
         refine start_ (n := 14) (S := fun w' => True) (ds := []) (bz 14 0) (by kernel_rfl) rfl rfl trivial (fun hHeld => ?_);refine with_tabW slices_partitionOrdered_uint64.tab3 slices_partitionOrdered_uint64.bits3 (fun HT_ HW_ => ?_)
         generalize wr.drew = w25 at HO_0 HK HB hHeld ⊢
         refine pk 0 30 (bz 14 1) HT_ ?_
         refine pk 1 31 (bz 14 3) HT_ ?_
         refine pk 2 32 (bz 14 7) HT_ ?_
         refine pk 3 33 (bz 14 15) HT_ ?_
         refine pz 4 34 (bz 14 31) HT_ ?_
         refine pz 5 35 (bz 14 63) HT_ ?_
         refine pz 6 36 (bz 14 127) HT_ ?_
         refine pz 7 37 (bz 14 255) HT_ ?_
         refine pz 8 38 (bz 14 511) HT_ ?_
         refine pz 9 39 (bz 14 1023) HT_ ?_
         refine pz 10 40 (bz 14 2047) HT_ ?_
         refine pz 11 41 (bz 14 4095) HT_ ?_
         refine pz 12 42 (bz 14 8191) HT_ ?_
         refine pk 13 43 (bz 14 16383) HT_ ?_
         refine done_ (done_of HT_.out (by kernel_rfl)) ?_
         try go_wp2
         (try simp only [← hl0_1])
         go_meet
         case rel => exact ⟨_,(x10_1),(by first|rfl|(simp;done)|(simp [*];done)),H',⟨by have := HK1.out;first|omega|exact Nat.le_refl _⟩,⟨by (try simp only [hl0_1]);(with_reducible repeat (first|apply Kd.R_alloc|apply Kd.R_drewN|apply Kd.R_drew));exact HO_0.out⟩,⟨by repeat (first|(with_reducible first|exact HK.out|apply Kept.alloc|apply Kept.drewN|apply Kept.drew)|exact HK.out)⟩,⟨bb HB⟩⟩
     case rest =>
      clear HC11
      try clear c1
      try clear p1
      try clear q1
      try clear hx1
      try clear c2
      try clear p2
      try clear p3
      try clear q3
      try clear hx3
      try clear c5
      try clear c5b0
      try clear c6
      try clear c6b0
      try clear p6
      try clear c7
      try clear c7b0
      try clear c8
      try clear c8b0
      try clear p9
      try clear q9
      try clear hx9
      try clear hf9
      try clear p10
      try clear q10
      try clear hx10
      try clear hf10
      try clear c11
      try clear c16
      try clear c16b0
      try clear c17
      try clear c17b0
      try clear c18
      try clear c18b0
      try clear c19
      try clear c19b0
      try clear c20
      try clear c20b0
      try clear c22
      try clear hx10_0
      try clear hx312_0
      try clear hx313_0
      try clear hx316_0
      try clear hx317_0
      try clear hx9_0
      try clear p1
      try clear p10
      try clear p2
      try clear p3
      try clear p312
      try clear p313
      try clear p316
      try clear p317
      try clear p6
      try clear p9
      try clear q1
      try clear q10
      try clear q3
      try clear q312
      try clear q313
      try clear q316
      try clear q317
      try clear q9
      obtain ⟨kq,x10_10,rfl,HA,HJ10,HO_0,HK,HB⟩ := hcut
      have hl0_10 := (Kd.R_reads' HO_0.out).1
      rw [hl0_10] at HO_0
      (try simp only [hl0_10])
      cases kq with
      | zero => exact absurd HA.out (by simp [slices_partitionOrdered_uint64.j1])
      | succ kj10 =>
       have H := HA.out
       clear HA
       simp only [slices_partitionOrdered_uint64.j1] at H
       have HC26 := am H
       clear H
       go_upto_block 2 with (fail)
       go_cut [11] (fun v11 wc => ∃ (kq : Nat) (x11_25 : Int),v11 = .int .i64 x11_25 ∧ Aside0 (slices_partitionOrdered_uint64.j3 kq y315 a1 x10_10 x11_25 = some (r1,r2,r3)) ∧ Aside0 (kq ≤ kj10) ∧ Aside0 (Kd.R (Kd.int .u64) 22 wc w0.heap.size (fun k_ => (P0_ k_ ∨ w.heap.size ≤ k_)) (.slice (some ⟨go9,0,none⟩) y315.length co13) y315) ∧ Aside0 (Kept w wc (fun k_ => P0_ k_)) ∧ Aside0 (Below w0.heap.size w0 wc))
       case first =>
        have H := HC26.out
        clear HC26
        have H' := am H
        clear H
        go_wp2
        go_loopg [11] kj10 (fun kq v11 w' => ∃ (x11_2 : Int),v11 = .int .i64 x11_2 ∧ Aside0 (slices_partitionOrdered_uint64.l1 kq y315 a1 x10_10 x11_2 = some (r1,r2,r3)) ∧ Aside0 (kq ≤ kj10) ∧ Aside0 (Kd.R (Kd.int .u64) 22 w' w0.heap.size (fun k_ => (P0_ k_ ∨ w.heap.size ≤ k_)) (.slice (some ⟨go9,0,none⟩) y315.length co13) y315) ∧ Aside0 (Kept w w' (fun k_ => P0_ k_)) ∧ Aside0 (Below w0.heap.size w0 w'))
        case atStart => exact ⟨((wrap64 (a2 - 1))),(by first|rfl|(simp;done)|(simp [*];done)),H',⟨Nat.le_refl _⟩,⟨by (try simp only [hl0_10]);(with_reducible repeat (first|apply Kd.R_alloc|apply Kd.R_drewN|apply Kd.R_drew));exact HO_0.out⟩,⟨by repeat (first|(with_reducible first|exact HK.out|apply Kept.alloc|apply Kept.drewN|apply Kept.drew)|exact HK.out)⟩,⟨bb HB⟩⟩
        case round =>
         clear H'
         try clear c1
         try clear p1
         try clear q1
         try clear hx1
         try clear c2
         try clear p2
         try clear p3
         try clear q3
         try clear hx3
         try clear c5
         try clear c5b0
         try clear c6
         try clear c6b0
         try clear p6
         try clear c7
         try clear c7b0
         try clear c8
         try clear c8b0
         try clear p9
         try clear q9
         try clear hx9
         try clear hf9
         try clear p10
         try clear q10
         try clear hx10
         try clear hf10
         try clear c11
         try clear c16
         try clear c16b0
         try clear c17
         try clear c17b0
         try clear c18
         try clear c18b0
         try clear c19
         try clear c19b0
         try clear c20
         try clear c20b0
         try clear c22
         try clear hx10_0
         try clear hx312_0
         try clear hx313_0
         try clear hx316_0
         try clear hx317_0
         try clear hx9_0
         try clear p1
         try clear p10
         try clear p2
         try clear p3
         try clear p312
         try clear p313
         try clear p316
         try clear p317
         try clear p6
         try clear p9
         try clear q1
         try clear q10
         try clear q3
         try clear q312
         try clear q313
         try clear q316
         try clear q317
         try clear q9
         obtain ⟨x11_2,rfl,HA,HK2,HO_0,HK,HB⟩ := hrel
         cases gk with
         | zero => exact absurd HA.out (by simp [slices_partitionOrdered_uint64.l1])
         | succ k2 =>
          have H := HA.out
          clear HA
          simp only [slices_partitionOrdered_uint64.l1] at H
          by_cases c27 : x10_10 ≤ x11_2
          ·rw [if_pos c27] at H
           have c27b0 : decide (x10_10 ≤ x11_2) = true := decide_eq_true c27
           clear c27
           (first|rw [c27b0]|(simp only [i64_w,i32_w];rw [c27b0])|skip)
           by_cases c28 : 0 ≤ x11_2
           ·rw [if_pos c28] at H
            have c28b0 : decide (0 ≤ x11_2) = true := decide_eq_true c28
            clear c28
            by_cases c29 : x11_2 < (y315.length : Int)
            ·rw [if_pos c29] at H
             have c29b0 : decide (x11_2 < (y315.length : Int)) = true := decide_eq_true c29
             clear c29
             by_cases c30 : 0 ≤ a1
             ·rw [if_pos c30] at H
              have c30b0 : decide (0 ≤ a1) = true := decide_eq_true c30
              clear c30
              by_cases c31 : a1 < (y315.length : Int)
              ·rw [if_pos c31] at H
               have c31b0 : decide (a1 < (y315.length : Int)) = true := decide_eq_true c31
               clear c31
               replace H := Option.bind_eq_some_iff.mp H
               obtain ⟨t321,A320,H⟩ := H
               try dsimp only at H
               have A32 := am A320
               clear A320
               by_cases c33 : t321 = true
               ·subst c33
                rw [if_pos rfl] at H
                have H' := am H
                clear H
                try go_wp2
                have n0_ := am (Kd.R_drew HO_0.out)
                have n1_ := am (Kept.drew HK.out)
                have n2_ := am (below_drew1 HB.out)
                clear HO_0
                clear HK
                clear HB
                have HO_0 := n0_
                have HK := n1_
                have HB := n2_
                clear n0_ n1_ n2_
                have p319 : 0 ≤ (x11_2 : Int) := od
                have q319 : x11_2 < (y315.length : Int) := od
                obtain ⟨ad319,e319,hx319_0⟩ := Kd.at_int (Kd.R_reads' HO_0.out).2.2 x11_2 p319 q319
                obtain rfl : (⟨go9,0,none⟩ : Addr) = ad319 := (by injection e319)
                (first|simp only [add_plain] at hx319_0|simp only [add_at] at hx319_0|simp only [Addr.add,Nat.zero_add] at hx319_0|skip)
                replace p319 := eq_true p319
                replace q319 := eq_true q319
                have p320 : 0 ≤ (a1 : Int) := od
                have q320 : a1 < (y315.length : Int) := od
                obtain ⟨ad320,e320,hx320_0⟩ := Kd.at_int (Kd.R_reads' HO_0.out).2.2 a1 p320 q320
                obtain rfl : (⟨go9,0,none⟩ : Addr) = ad320 := (by injection e320)
                (first|simp only [add_plain] at hx320_0|simp only [add_at] at hx320_0|simp only [Addr.add,Nat.zero_add] at hx320_0|skip)
                replace p320 := eq_true p320
                replace q320 := eq_true q320
                refine start_ (n := 15) (S := fun w' => w'.cell? ⟨go9,(x11_2).toNat,none⟩ = some (.int .u64 (rd y315 x11_2)) ∧ w'.cell? ⟨go9,(a1).toNat,none⟩ = some (.int .u64 (rd y315 a1))) (ds := []) (bz 15 0) (by kernel_rfl) rfl rfl ⟨hx319_0,hx320_0⟩ (fun hHeld => ?_);refine with_tabW slices_partitionOrdered_uint64.tab5 slices_partitionOrdered_uint64.bits5 (fun HT_ HW_ => ?_)
                generalize wr.drew = w34 at HO_0 HK HB hx319_0 hx320_0 hHeld ⊢
                refine pk 0 46 (bz 15 1) HT_ ?_
                refine pk 1 47 (bz 15 3) HT_ ?_
                refine pk 2 48 (bz 15 7) HT_ ?_
                refine pk 3 49 (bz 15 15) HT_ ?_
                refine pk 4 50 (bz 15 31) HT_ ?_
                refine pk 5 51 (bz 15 63) HT_ ?_
                refine pk 6 52 (bz 15 127) HT_ ?_
                refine pk 8 54 (bz 15 383) HT_ ?_
                refine pk 9 55 (bz 15 895) HT_ ?_
                refine pk 10 56 (bz 15 1919) HT_ ?_
                refine tk 7 53 (bz 15 2047) HT_ HW_ hHeld ?_
                refine tk 11 57 (bz 15 4095) HT_ HW_ hHeld ?_
                refine on 12 58 (bz 15 8191) HT_ (fun K hK => ?_)
                refine goes_ Try.func111 (by kernel_rfl) rfl #[.int .u64 (rd y315 x11_2),.int .u64 (rd y315 a1)] (by rfl) rfl rfl (by (try simp only [List.map_toArray,List.map_cons,List.map_nil]);first|done|rfl|(simp only [List.length_drop,List.length_take];rfl)) ?_
                with_reducible refine (cmp_Less_uint64.calls (rd y315 x11_2) (rd y315 a1) true _ A32.out).mono ?_
                rintro e w' ⟨rfl,⟨nd,rfl⟩⟩
                refine ⟨_,rfl,?_⟩
                refine hK.out _ _ ⟨hHeld.1,hHeld.2⟩ (fun hHeld => ?_)
                clear hK K
                refine nm 58 ?_
                refine pk 13 59 (bz 15 16383) HT_ ?_
                refine pk 14 60 (bz 15 32767) HT_ ?_
                refine done_ (done_of HT_.out (by kernel_rfl)) ?_
                try go_wp2
                go_meet
                case rel => exact ⟨_,(x11_2),(by first|rfl|(simp;done)|(simp [*];done)),H',⟨by have := HJ10.out;have := HK2.out;first|omega|exact Nat.le_refl _⟩,⟨by (try simp only [hl0_10]);(with_reducible repeat (first|apply Kd.R_alloc|apply Kd.R_drewN|apply Kd.R_drew));exact HO_0.out⟩,⟨by repeat (first|(with_reducible first|exact HK.out|apply Kept.alloc|apply Kept.drewN|apply Kept.drew)|exact HK.out)⟩,⟨bb HB⟩⟩
               ·replace c33 := Bool.eq_false_iff.mpr c33
                subst c33
                rw [if_neg (show ¬ (false = true) by decide)] at H
                have H' := am H
                clear H
                try go_wp2
                have n0_ := am (Kd.R_drew HO_0.out)
                have n1_ := am (Kept.drew HK.out)
                have n2_ := am (below_drew1 HB.out)
                clear HO_0
                clear HK
                clear HB
                have HO_0 := n0_
                have HK := n1_
                have HB := n2_
                clear n0_ n1_ n2_
                have p319 : 0 ≤ (x11_2 : Int) := od
                have q319 : x11_2 < (y315.length : Int) := od
                obtain ⟨ad319,e319,hx319_0⟩ := Kd.at_int (Kd.R_reads' HO_0.out).2.2 x11_2 p319 q319
                obtain rfl : (⟨go9,0,none⟩ : Addr) = ad319 := (by injection e319)
                (first|simp only [add_plain] at hx319_0|simp only [add_at] at hx319_0|simp only [Addr.add,Nat.zero_add] at hx319_0|skip)
                replace p319 := eq_true p319
                replace q319 := eq_true q319
                have p320 : 0 ≤ (a1 : Int) := od
                have q320 : a1 < (y315.length : Int) := od
                obtain ⟨ad320,e320,hx320_0⟩ := Kd.at_int (Kd.R_reads' HO_0.out).2.2 a1 p320 q320
                obtain rfl : (⟨go9,0,none⟩ : Addr) = ad320 := (by injection e320)
                (first|simp only [add_plain] at hx320_0|simp only [add_at] at hx320_0|simp only [Addr.add,Nat.zero_add] at hx320_0|skip)
                replace p320 := eq_true p320
                replace q320 := eq_true q320
                refine start_ (n := 15) (S := fun w' => w'.cell? ⟨go9,(x11_2).toNat,none⟩ = some (.int .u64 (rd y315 x11_2)) ∧ w'.cell? ⟨go9,(a1).toNat,none⟩ = some (.int .u64 (rd y315 a1))) (ds := []) (bz 15 0) (by kernel_rfl) rfl rfl ⟨hx319_0,hx320_0⟩ (fun hHeld => ?_);refine with_tabW slices_partitionOrdered_uint64.tab5 slices_partitionOrdered_uint64.bits5 (fun HT_ HW_ => ?_)
                generalize wr.drew = w35 at HO_0 HK HB hx319_0 hx320_0 hHeld ⊢
                refine pk 0 46 (bz 15 1) HT_ ?_
                refine pk 1 47 (bz 15 3) HT_ ?_
                refine pk 2 48 (bz 15 7) HT_ ?_
                refine pk 3 49 (bz 15 15) HT_ ?_
                refine pk 4 50 (bz 15 31) HT_ ?_
                refine pk 5 51 (bz 15 63) HT_ ?_
                refine pk 6 52 (bz 15 127) HT_ ?_
                refine pk 8 54 (bz 15 383) HT_ ?_
                refine pk 9 55 (bz 15 895) HT_ ?_
                refine pk 10 56 (bz 15 1919) HT_ ?_
                refine tk 7 53 (bz 15 2047) HT_ HW_ hHeld ?_
                refine tk 11 57 (bz 15 4095) HT_ HW_ hHeld ?_
                refine on 12 58 (bz 15 8191) HT_ (fun K hK => ?_)
                refine goes_ Try.func111 (by kernel_rfl) rfl #[.int .u64 (rd y315 x11_2),.int .u64 (rd y315 a1)] (by rfl) rfl rfl (by (try simp only [List.map_toArray,List.map_cons,List.map_nil]);first|done|rfl|(simp only [List.length_drop,List.length_take];rfl)) ?_
                with_reducible refine (cmp_Less_uint64.calls (rd y315 x11_2) (rd y315 a1) false _ A32.out).mono ?_
                rintro e w' ⟨rfl,⟨nd,rfl⟩⟩
                refine ⟨_,rfl,?_⟩
                refine hK.out _ _ ⟨hHeld.1,hHeld.2⟩ (fun hHeld => ?_)
                clear hK K
                refine nm 58 ?_
                refine pk 13 59 (bz 15 16383) HT_ ?_
                refine pk 14 60 (bz 15 32767) HT_ ?_
                refine done_ (done_of HT_.out (by kernel_rfl)) ?_
                try go_wp2
                go_roundg k2
                case measure => have := HJ10.out;have := HK2.out;omega
                case rel => exact ⟨(wrap64 (x11_2 - 1)),(by first|rfl|(simp;done)|(simp [*];done)),H',⟨by have := HJ10.out;have := HK2.out;omega⟩,⟨by (try simp only [hl0_10]);(with_reducible repeat (first|apply Kd.R_alloc|apply Kd.R_drewN|apply Kd.R_drew));exact HO_0.out⟩,⟨by repeat (first|(with_reducible first|exact HK.out|apply Kept.alloc|apply Kept.drewN|apply Kept.drew)|exact HK.out)⟩,⟨bb HB⟩⟩
              ·rw [if_neg c31] at H
               exact absurd H (by simp)
             ·rw [if_neg c30] at H
              exact absurd H (by simp)
            ·rw [if_neg c29] at H
             exact absurd H (by simp)
           ·rw [if_neg c28] at H
            exact absurd H (by simp)
          ·rw [if_neg c27] at H
           have c27b0 : decide (x10_10 ≤ x11_2) = false := decide_eq_false c27
           clear c27
           (first|rw [c27b0]|(simp only [i64_w,i32_w];rw [c27b0])|skip)
           have H' := am H
           clear H
           try go_wp2
           have n0_ := am (Kd.R_drew HO_0.out)
           have n1_ := am (Kept.drew HK.out)
           have n2_ := am (below_drew1 HB.out)
           clear HO_0
           clear HK
           clear HB
           have HO_0 := n0_
           have HK := n1_
           have HB := n2_
           clear n0_ n1_ n2_
           refine start_ (n := 15) (S := fun w' => True) (ds := []) (bz 15 0) (by kernel_rfl) rfl rfl trivial (fun hHeld => ?_);refine with_tabW slices_partitionOrdered_uint64.tab5 slices_partitionOrdered_uint64.bits5 (fun HT_ HW_ => ?_)
           generalize wr.drew = w36 at HO_0 HK HB hHeld ⊢
           refine pk 0 46 (bz 15 1) HT_ ?_
           refine pk 1 47 (bz 15 3) HT_ ?_
           refine pk 2 48 (bz 15 7) HT_ ?_
           refine pk 3 49 (bz 15 15) HT_ ?_
           refine pz 4 50 (bz 15 31) HT_ ?_
           refine pz 5 51 (bz 15 63) HT_ ?_
           refine pz 6 52 (bz 15 127) HT_ ?_
           refine pz 7 53 (bz 15 255) HT_ ?_
           refine pz 8 54 (bz 15 511) HT_ ?_
           refine pz 9 55 (bz 15 1023) HT_ ?_
           refine pz 10 56 (bz 15 2047) HT_ ?_
           refine pz 11 57 (bz 15 4095) HT_ ?_
           refine pz 12 58 (bz 15 8191) HT_ ?_
           refine pz 13 59 (bz 15 16383) HT_ ?_
           refine pk 14 60 (bz 15 32767) HT_ ?_
           refine done_ (done_of HT_.out (by kernel_rfl)) ?_
           try go_wp2
           go_meet
           case rel => exact ⟨_,(x11_2),(by first|rfl|(simp;done)|(simp [*];done)),H',⟨by have := HJ10.out;have := HK2.out;first|omega|exact Nat.le_refl _⟩,⟨by (try simp only [hl0_10]);(with_reducible repeat (first|apply Kd.R_alloc|apply Kd.R_drewN|apply Kd.R_drew));exact HO_0.out⟩,⟨by repeat (first|(with_reducible first|exact HK.out|apply Kept.alloc|apply Kept.drewN|apply Kept.drew)|exact HK.out)⟩,⟨bb HB⟩⟩
       case rest =>
        clear HC26
        try clear c1
        try clear p1
        try clear q1
        try clear hx1
        try clear c2
        try clear p2
        try clear c3
        try clear p3
        try clear q3
        try clear hx3
        try clear c5
        try clear c5b0
        try clear c6
        try clear c6b0
        try clear p6
        try clear c7
        try clear c7b0
        try clear c8
        try clear c8b0
        try clear p9
        try clear q9
        try clear hx9
        try clear hf9
        try clear p10
        try clear q10
        try clear hx10
        try clear hf10
        try clear c11
        try clear c16
        try clear c16b0
        try clear c17
        try clear c17b0
        try clear c18
        try clear c18b0
        try clear c19
        try clear c19b0
        try clear c20
        try clear c20b0
        try clear c22
        try clear c27
        try clear c27b0
        try clear c28
        try clear c28b0
        try clear c29
        try clear c29b0
        try clear c30
        try clear c30b0
        try clear c31
        try clear c31b0
        try clear p31
        try clear q31
        try clear hx31
        try clear p32
        try clear q32
        try clear hx32
        try clear c33
        try clear hx10_0
        try clear hx312_0
        try clear hx313_0
        try clear hx316_0
        try clear hx317_0
        try clear hx319_0
        try clear hx320_0
        try clear hx9_0
        try clear p1
        try clear p10
        try clear p2
        try clear p3
        try clear p312
        try clear p313
        try clear p316
        try clear p317
        try clear p319
        try clear p320
        try clear p6
        try clear p9
        try clear q1
        try clear q10
        try clear q3
        try clear q312
        try clear q313
        try clear q316
        try clear q317
        try clear q319
        try clear q320
        try clear q9
        obtain ⟨kq,x11_25,rfl,HA,HJ25,HO_0,HK,HB⟩ := hcut
        cases kq with
        | zero => exact absurd HA.out (by simp [slices_partitionOrdered_uint64.j3])
        | succ kj25 =>
         have H := HA.out
         clear HA
         simp only [slices_partitionOrdered_uint64.j3] at H
         by_cases c37 : x10_10 > x11_25
         ·rw [if_pos c37] at H
          have c37b0 : decide (x11_25 < x10_10) = true := decide_eq_true c37
          clear c37
          by_cases c38 : 0 ≤ a1
          ·rw [if_pos c38] at H
           have c38b0 : decide (0 ≤ a1) = true := decide_eq_true c38
           clear c38
           by_cases c39 : a1 < (y315.length : Int)
           ·rw [if_pos c39] at H
            have c39b0 : decide (a1 < (y315.length : Int)) = true := decide_eq_true c39
            clear c39
            by_cases c40 : 0 ≤ x11_25
            ·rw [if_pos c40] at H
             have c40b0 : decide (0 ≤ x11_25) = true := decide_eq_true c40
             clear c40
             by_cases c41 : x11_25 < (y315.length : Int)
             ·rw [if_pos c41] at H
              have c41b0 : decide (x11_25 < (y315.length : Int)) = true := decide_eq_true c41
              clear c41
              obtain ⟨y324,hy324⟩ : ∃ y_ : List Int,y_ = (y315.set (x11_25 : Int).toNat (rd y315 a1)) := ⟨_,rfl⟩
              replace H : (some (x11_25,true,(y324.set (a1 : Int).toNat (rd y315 x11_25)))) = some (r1,r2,r3) := by first|(rw [hy324];with_reducible exact H)|(have H2_ := (Option.bind_some _ _).symm.trans H;rw [hy324];with_reducible exact H2_)|(have H2_ := (Option.bind_some _ _).symm.trans H;with_reducible exact H2_)|with_reducible exact H|(rw [hy324];exact H)|exact H
              have Ny324 := am hy324
              clear hy324
              obtain ⟨y325,hy325⟩ : ∃ y_ : List Int,y_ = (y324.set (a1 : Int).toNat (rd y315 x11_25)) := ⟨_,rfl⟩
              replace H : (some (x11_25,true,y325)) = some (r1,r2,r3) := by first|(rw [hy325];with_reducible exact H)|(have H2_ := (Option.bind_some _ _).symm.trans H;rw [hy325];with_reducible exact H2_)|(have H2_ := (Option.bind_some _ _).symm.trans H;with_reducible exact H2_)|with_reducible exact H|(rw [hy325];exact H)|exact H
              have Ny325 := am hy325
              clear hy325
              simp only [Option.some.injEq,Prod.mk.injEq] at H
              obtain ⟨rfl,rfl,rfl⟩ := H
              try go_wp2
              have n0_ := am (Kd.R_drew HO_0.out)
              have n1_ := am (Kept.drew HK.out)
              have n2_ := am (below_drew1 HB.out)
              clear HO_0
              clear HK
              clear HB
              have HO_0 := n0_
              have HK := n1_
              have HB := n2_
              clear n0_ n1_ n2_
              have p322 : 0 ≤ (a1 : Int) := od
              have q322 : a1 < (y315.length : Int) := od
              obtain ⟨ad322,e322,hx322_0⟩ := Kd.at_int (Kd.R_reads' HO_0.out).2.2 a1 p322 q322
              obtain rfl : (⟨go9,0,none⟩ : Addr) = ad322 := (by injection e322)
              (first|simp only [add_plain] at hx322_0|simp only [add_at] at hx322_0|simp only [Addr.add,Nat.zero_add] at hx322_0|skip)
              replace p322 := eq_true p322
              replace q322 := eq_true q322
              have p323 : 0 ≤ (x11_25 : Int) := od
              have q323 : x11_25 < (y315.length : Int) := od
              obtain ⟨ad323,e323,hx323_0⟩ := Kd.at_int (Kd.R_reads' HO_0.out).2.2 x11_25 p323 q323
              obtain rfl : (⟨go9,0,none⟩ : Addr) = ad323 := (by injection e323)
              (first|simp only [add_plain] at hx323_0|simp only [add_at] at hx323_0|simp only [Addr.add,Nat.zero_add] at hx323_0|skip)
              replace p323 := eq_true p323
              replace q323 := eq_true q323
              have p42 : 0 ≤ (x11_25 : Int) := od
              have q42 : (x11_25 : Int) < ((y315.length : Int) : Int) := od
              obtain ⟨hx42_0,hf42_0⟩ := Kd.R_celln 0 HO_0.out (x11_25 : Int) p42 q42
              replace p42 := eq_true p42
              replace q42 := eq_true q42
              have HP45 := Kd.R_putn HO_0.out (x11_25 : Int) (rd y315 a1)
              rw [← Ny324.out] at HP45
              have HQ45 := am HP45
              clear HP45
              have p43 : 0 ≤ (a1 : Int) := od
              have q43 : (a1 : Int) < ((y315.length : Int) : Int) := od
              obtain ⟨hx43_0,hf43_0⟩ := Kd.R_celln 0 HQ45.out (a1 : Int) p43 q43
              replace p43 := eq_true p43
              replace q43 := eq_true q43
              have HP46 := Kd.R_putn HQ45.out (a1 : Int) (rd y315 x11_25)
              rw [← Ny325.out] at HP46
              have HQ46 := am HP46
              clear HP46
              refine start_ (n := 16) (S := fun w' => w'.cell? ⟨go9,(a1).toNat,none⟩ = some (.int .u64 (rd y315 a1)) ∧ w'.cell? ⟨go9,(x11_25).toNat,none⟩ = some (.int .u64 (rd y315 x11_25))) (ds := [13,15]) (bz 16 0) (by kernel_rfl) rfl rfl ⟨hx322_0,hx323_0⟩ (fun hHeld => ?_);refine with_tabW slices_partitionOrdered_uint64.tab8 slices_partitionOrdered_uint64.bits8 (fun HT_ HW_ => ?_)
              generalize wc.drew = w44 at HO_0 HK HB HQ45 HQ46 hf42_0 hf43_0 hx322_0 hx323_0 hx42_0 hx43_0 hHeld ⊢
              refine pk 0 66 (bz 16 1) HT_ ?_
              refine pk 1 67 (bz 16 3) HT_ ?_
              refine pk 2 68 (bz 16 7) HT_ ?_
              refine pk 3 69 (bz 16 15) HT_ ?_
              refine pk 4 70 (bz 16 31) HT_ ?_
              refine pk 5 71 (bz 16 63) HT_ ?_
              refine pk 6 72 (bz 16 127) HT_ ?_
              refine pk 8 74 (bz 16 383) HT_ ?_
              refine pk 9 75 (bz 16 895) HT_ ?_
              refine pk 10 76 (bz 16 1919) HT_ ?_
              refine tk 7 73 (bz 16 2047) HT_ HW_ hHeld ?_
              refine tk 11 77 (bz 16 4095) HT_ HW_ hHeld ?_
              refine pk 12 78 (bz 16 8191) HT_ ?_
              refine last_ (i := 13) (N := none) (bz 16 16383) rfl rfl (one_of HT_.out (by kernel_rfl)) (by decide) (fun K hK => ?_)
              refine skip_ (w1 := ?_) (by rfl) rfl ?_ ?_
              rotate_left
              ·go_simp
               rfl
              refine hK.out _ _ ?_
              clear hK K
              refine pk 14 79 (bz 16 32767) HT_ ?_
              refine last_ (i := 15) (N := none) (bz 16 65535) rfl rfl (one_of HT_.out (by kernel_rfl)) (by decide) (fun K hK => ?_)
              refine skip_ (w1 := ?_) (by rfl) rfl ?_ ?_
              rotate_left
              ·go_simp
               rfl
              refine hK.out _ _ ?_
              clear hK K
              refine done_ (done_of HT_.out (by kernel_rfl)) ?_
              try go_wp2
              go_ret2
              exact ⟨by first|rfl|(simp [errW_none,errW_some] <;> rfl)|(simp [*,errW_none,errW_some] <;> rfl),(by first|exact (by (with_reducible repeat (first|apply Kd.R_alloc|apply Kd.R_drewN|apply Kd.R_drew));exact HQ46.out)|(simp only [hl0_10];exact (by (with_reducible repeat (first|apply Kd.R_alloc|apply Kd.R_drewN|apply Kd.R_drew));exact HQ46.out))),by repeat (first|(with_reducible first|exact HB.out|apply below_alloc|apply pw_below_drewN|apply below_drew1|refine below_set ?_ GB9.out|refine below_set ?_ GB9.out)|exact HB.out),by repeat (first|(with_reducible first|exact HK.out|apply Kept.alloc|apply Kept.drewN|apply Kept.drew|refine Kept.setCell ?_ HMgo9.out _|refine Kept.setCell ?_ HMgo9.out _)|exact HK.out)⟩
             ·rw [if_neg c41] at H
              exact absurd H (by simp)
            ·rw [if_neg c40] at H
             exact absurd H (by simp)
           ·rw [if_neg c39] at H
            exact absurd H (by simp)
          ·rw [if_neg c38] at H
           exact absurd H (by simp)
         ·rw [if_neg c37] at H
          have c37b0 : decide (x11_25 < x10_10) = false := decide_eq_false c37
          clear c37
          by_cases c47 : 0 ≤ x11_25
          ·rw [if_pos c47] at H
           have c47b0 : decide (0 ≤ x11_25) = true := decide_eq_true c47
           clear c47
           by_cases c48 : x11_25 < (y315.length : Int)
           ·rw [if_pos c48] at H
            have c48b0 : decide (x11_25 < (y315.length : Int)) = true := decide_eq_true c48
            clear c48
            by_cases c49 : 0 ≤ x10_10
            ·rw [if_pos c49] at H
             have c49b0 : decide (0 ≤ x10_10) = true := decide_eq_true c49
             clear c49
             by_cases c50 : x10_10 < (y315.length : Int)
             ·rw [if_pos c50] at H
              have c50b0 : decide (x10_10 < (y315.length : Int)) = true := decide_eq_true c50
              clear c50
              obtain ⟨y328,hy328⟩ : ∃ y_ : List Int,y_ = (y315.set (x10_10 : Int).toNat (rd y315 x11_25)) := ⟨_,rfl⟩
              replace H : (slices_partitionOrdered_uint64.l2 kj25 (y328.set (x11_25 : Int).toNat (rd y315 x10_10)) a1 (wrap64 (x10_10 + 1)) (wrap64 (x11_25 - 1))) = some (r1,r2,r3) := by first|(rw [hy328];with_reducible exact H)|(have H2_ := (Option.bind_some _ _).symm.trans H;rw [hy328];with_reducible exact H2_)|(have H2_ := (Option.bind_some _ _).symm.trans H;with_reducible exact H2_)|with_reducible exact H|(rw [hy328];exact H)|exact H
              have Ny328 := am hy328
              clear hy328
              obtain ⟨y329,hy329⟩ : ∃ y_ : List Int,y_ = (y328.set (x11_25 : Int).toNat (rd y315 x10_10)) := ⟨_,rfl⟩
              replace H : (slices_partitionOrdered_uint64.l2 kj25 y329 a1 (wrap64 (x10_10 + 1)) (wrap64 (x11_25 - 1))) = some (r1,r2,r3) := by first|(rw [hy329];with_reducible exact H)|(have H2_ := (Option.bind_some _ _).symm.trans H;rw [hy329];with_reducible exact H2_)|(have H2_ := (Option.bind_some _ _).symm.trans H;with_reducible exact H2_)|with_reducible exact H|(rw [hy329];exact H)|exact H
              have Ny329 := am hy329
              clear hy329
              have H' := am H
              clear H
              try go_wp2
              have n0_ := am (Kd.R_drew HO_0.out)
              have n1_ := am (Kept.drew HK.out)
              have n2_ := am (below_drew1 HB.out)
              clear HO_0
              clear HK
              clear HB
              have HO_0 := n0_
              have HK := n1_
              have HB := n2_
              clear n0_ n1_ n2_
              have p326 : 0 ≤ (x11_25 : Int) := od
              have q326 : x11_25 < (y315.length : Int) := od
              obtain ⟨ad326,e326,hx326_0⟩ := Kd.at_int (Kd.R_reads' HO_0.out).2.2 x11_25 p326 q326
              obtain rfl : (⟨go9,0,none⟩ : Addr) = ad326 := (by injection e326)
              (first|simp only [add_plain] at hx326_0|simp only [add_at] at hx326_0|simp only [Addr.add,Nat.zero_add] at hx326_0|skip)
              replace p326 := eq_true p326
              replace q326 := eq_true q326
              have p327 : 0 ≤ (x10_10 : Int) := od
              have q327 : x10_10 < (y315.length : Int) := od
              obtain ⟨ad327,e327,hx327_0⟩ := Kd.at_int (Kd.R_reads' HO_0.out).2.2 x10_10 p327 q327
              obtain rfl : (⟨go9,0,none⟩ : Addr) = ad327 := (by injection e327)
              (first|simp only [add_plain] at hx327_0|simp only [add_at] at hx327_0|simp only [Addr.add,Nat.zero_add] at hx327_0|skip)
              replace p327 := eq_true p327
              replace q327 := eq_true q327
              have p51 : 0 ≤ (x10_10 : Int) := od
              have q51 : (x10_10 : Int) < ((y315.length : Int) : Int) := od
              obtain ⟨hx51_0,hf51_0⟩ := Kd.R_celln 0 HO_0.out (x10_10 : Int) p51 q51
              replace p51 := eq_true p51
              replace q51 := eq_true q51
              have HP54 := Kd.R_putn HO_0.out (x10_10 : Int) (rd y315 x11_25)
              rw [← Ny328.out] at HP54
              have HQ54 := am HP54
              clear HP54
              have p52 : 0 ≤ (x11_25 : Int) := od
              have q52 : (x11_25 : Int) < ((y315.length : Int) : Int) := od
              obtain ⟨hx52_0,hf52_0⟩ := Kd.R_celln 0 HQ54.out (x11_25 : Int) p52 q52
              replace p52 := eq_true p52
              replace q52 := eq_true q52
              have HP55 := Kd.R_putn HQ54.out (x11_25 : Int) (rd y315 x10_10)
              rw [← Ny329.out] at HP55
              have HQ55 := am HP55
              clear HP55
              refine start_ (n := 16) (S := fun w' => w'.cell? ⟨go9,(x11_25).toNat,none⟩ = some (.int .u64 (rd y315 x11_25)) ∧ w'.cell? ⟨go9,(x10_10).toNat,none⟩ = some (.int .u64 (rd y315 x10_10))) (ds := [13,15]) (bz 16 0) (by kernel_rfl) rfl rfl ⟨hx326_0,hx327_0⟩ (fun hHeld => ?_);refine with_tabW slices_partitionOrdered_uint64.tab10 slices_partitionOrdered_uint64.bits10 (fun HT_ HW_ => ?_)
              generalize wc.drew = w53 at HO_0 HK HB HQ54 HQ55 hf51_0 hf52_0 hx326_0 hx327_0 hx51_0 hx52_0 hHeld ⊢
              refine pk 0 81 (bz 16 1) HT_ ?_
              refine pk 1 82 (bz 16 3) HT_ ?_
              refine pk 2 83 (bz 16 7) HT_ ?_
              refine pk 3 84 (bz 16 15) HT_ ?_
              refine pk 4 85 (bz 16 31) HT_ ?_
              refine pk 5 86 (bz 16 63) HT_ ?_
              refine pk 6 87 (bz 16 127) HT_ ?_
              refine pk 8 89 (bz 16 383) HT_ ?_
              refine pk 9 90 (bz 16 895) HT_ ?_
              refine pk 10 91 (bz 16 1919) HT_ ?_
              refine tk 7 88 (bz 16 2047) HT_ HW_ hHeld ?_
              refine tk 11 92 (bz 16 4095) HT_ HW_ hHeld ?_
              refine pk 12 93 (bz 16 8191) HT_ ?_
              refine last_ (i := 13) (N := none) (bz 16 16383) rfl rfl (one_of HT_.out (by kernel_rfl)) (by decide) (fun K hK => ?_)
              refine skip_ (w1 := ?_) (by rfl) rfl ?_ ?_
              rotate_left
              ·go_simp
               rfl
              refine hK.out _ _ ?_
              clear hK K
              refine pk 14 94 (bz 16 32767) HT_ ?_
              refine last_ (i := 15) (N := none) (bz 16 65535) rfl rfl (one_of HT_.out (by kernel_rfl)) (by decide) (fun K hK => ?_)
              refine skip_ (w1 := ?_) (by rfl) rfl ?_ ?_
              rotate_left
              ·go_simp
               rfl
              refine hK.out _ _ ?_
              clear hK K
              refine done_ (done_of HT_.out (by kernel_rfl)) ?_
              try go_wp2
              go_loopg [10,11] kj25 (fun kq v10 v11 w' => ∃ (x0_3 : List Int) (x10_3 : Int) (x11_3 : Int),v10 = .int .i64 x10_3 ∧ v11 = .int .i64 x11_3 ∧ Aside0 (slices_partitionOrdered_uint64.l2 kq x0_3 a1 x10_3 x11_3 = some (r1,r2,r3)) ∧ Aside0 (kq ≤ kj25) ∧ Aside0 (Kd.R (Kd.int .u64) 22 w' w0.heap.size (fun k_ => (P0_ k_ ∨ w.heap.size ≤ k_)) (.slice (some ⟨go9,0,none⟩) y315.length co13) x0_3) ∧ Aside0 (Kept w w' (fun k_ => P0_ k_)) ∧ Aside0 (Below w0.heap.size w0 w'))
              case atStart => exact ⟨(y329),(wrap64 (x10_10 + 1)),(wrap64 (x11_25 - 1)),(by first|rfl|(simp;done)|(simp [*];done)),(by first|rfl|(simp;done)|(simp [*];done)),H',⟨Nat.le_refl _⟩,⟨by (try simp only [hl0_10]);(with_reducible repeat (first|apply Kd.R_alloc|apply Kd.R_drewN|apply Kd.R_drew));exact HQ55.out⟩,⟨by repeat (first|(with_reducible first|exact HK.out|apply Kept.alloc|apply Kept.drewN|apply Kept.drew|refine Kept.setCell ?_ HMgo9.out _|refine Kept.setCell ?_ HMgo9.out _)|exact HK.out)⟩,⟨by repeat (first|(with_reducible first|exact HB.out|apply below_alloc|apply pw_below_drewN|apply below_drew1|refine below_set ?_ GB9.out|refine below_set ?_ GB9.out)|exact HB.out)⟩⟩
              case round =>
               clear H'
               try clear c1
               try clear p1
               try clear q1
               try clear hx1
               try clear c2
               try clear p2
               try clear c3
               try clear p3
               try clear q3
               try clear hx3
               try clear c4
               try clear p4
               try clear q4
               try clear hx4
               try clear hf4
               try clear c5
               try clear c5b0
               try clear p5
               try clear q5
               try clear hx5
               try clear hf5
               try clear c6
               try clear c6b0
               try clear p6
               try clear c7
               try clear c7b0
               try clear c8
               try clear c8b0
               try clear p9
               try clear q9
               try clear hx9
               try clear hf9
               try clear p10
               try clear q10
               try clear hx10
               try clear hf10
               try clear c11
               try clear c16
               try clear c16b0
               try clear c17
               try clear c17b0
               try clear c18
               try clear c18b0
               try clear c19
               try clear c19b0
               try clear c20
               try clear c20b0
               try clear c22
               try clear c27
               try clear c27b0
               try clear c28
               try clear c28b0
               try clear c29
               try clear c29b0
               try clear c30
               try clear c30b0
               try clear c31
               try clear c31b0
               try clear p31
               try clear q31
               try clear hx31
               try clear p32
               try clear q32
               try clear hx32
               try clear c33
               try clear c37
               try clear c37b0
               try clear c38
               try clear c38b0
               try clear c39
               try clear c39b0
               try clear c40
               try clear c40b0
               try clear c41
               try clear c41b0
               try clear p42
               try clear q42
               try clear hx42
               try clear hf42
               try clear p43
               try clear q43
               try clear hx43
               try clear hf43
               try clear c47
               try clear c47b0
               try clear c48
               try clear c48b0
               try clear c49
               try clear c49b0
               try clear c50
               try clear c50b0
               try clear p51
               try clear q51
               try clear hx51
               try clear hf51
               try clear p52
               try clear q52
               try clear hx52
               try clear hf52
               try clear hx10_0
               try clear hx312_0
               try clear hx313_0
               try clear hx316_0
               try clear hx317_0
               try clear hx319_0
               try clear hx320_0
               try clear hx322_0
               try clear hx323_0
               try clear hx326_0
               try clear hx327_0
               try clear hx42_0
               try clear hx43_0
               try clear hx51_0
               try clear hx52_0
               try clear hx9_0
               try clear p1
               try clear p10
               try clear p2
               try clear p3
               try clear p31
               try clear p312
               try clear p313
               try clear p316
               try clear p317
               try clear p319
               try clear p32
               try clear p320
               try clear p322
               try clear p323
               try clear p326
               try clear p327
               try clear p42
               try clear p43
               try clear p51
               try clear p52
               try clear p6
               try clear p9
               try clear q1
               try clear q10
               try clear q3
               try clear q31
               try clear q312
               try clear q313
               try clear q316
               try clear q317
               try clear q319
               try clear q32
               try clear q320
               try clear q322
               try clear q323
               try clear q326
               try clear q327
               try clear q42
               try clear q43
               try clear q51
               try clear q52
               try clear q9
               obtain ⟨x0_3,x10_3,x11_3,rfl,rfl,HA,HK3,HO_0,HK,HB⟩ := hrel
               have hl0_3 := (Kd.R_reads' HO_0.out).1
               rw [hl0_3] at HO_0
               (try simp only [hl0_3])
               cases gk with
               | zero => exact absurd HA.out (by simp [slices_partitionOrdered_uint64.l2])
               | succ k3 =>
                have H := HA.out
                clear HA
                simp only [slices_partitionOrdered_uint64.l2] at H
                have HC56 := am H
                clear H
                go_upto_block 6 with (fail)
                go_cut [10] (fun v10 wc => ∃ (kq : Nat) (x10_55 : Int),v10 = .int .i64 x10_55 ∧ Aside0 (slices_partitionOrdered_uint64.j6 kq x0_3 a1 x10_55 x11_3 = some (r1,r2,r3)) ∧ Aside0 (kq ≤ k3) ∧ Aside0 (Kd.R (Kd.int .u64) 22 wc w0.heap.size (fun k_ => (P0_ k_ ∨ w.heap.size ≤ k_)) (.slice (some ⟨go9,0,none⟩) x0_3.length co13) x0_3) ∧ Aside0 (Kept w wc (fun k_ => P0_ k_)) ∧ Aside0 (Below w0.heap.size w0 wc))
                case first =>
                 have H := HC56.out
                 clear HC56
                 have H' := am H
                 clear H
                 go_wp2
                 go_loopg [10] k3 (fun kq v10 w' => ∃ (x10_4 : Int),v10 = .int .i64 x10_4 ∧ Aside0 (slices_partitionOrdered_uint64.l3 kq x0_3 a1 x10_4 x11_3 = some (r1,r2,r3)) ∧ Aside0 (kq ≤ k3) ∧ Aside0 (Kd.R (Kd.int .u64) 22 w' w0.heap.size (fun k_ => (P0_ k_ ∨ w.heap.size ≤ k_)) (.slice (some ⟨go9,0,none⟩) x0_3.length co13) x0_3) ∧ Aside0 (Kept w w' (fun k_ => P0_ k_)) ∧ Aside0 (Below w0.heap.size w0 w'))
                 case atStart => exact ⟨(x10_3),(by first|rfl|(simp;done)|(simp [*];done)),H',⟨Nat.le_refl _⟩,⟨by (try simp only [hl0_10]);(try simp only [hl0_3]);(with_reducible repeat (first|apply Kd.R_alloc|apply Kd.R_drewN|apply Kd.R_drew));exact HO_0.out⟩,⟨by repeat (first|(with_reducible first|exact HK.out|apply Kept.alloc|apply Kept.drewN|apply Kept.drew)|exact HK.out)⟩,⟨bb HB⟩⟩
                 case round =>
                  clear H'
                  try clear c1
                  try clear p1
                  try clear q1
                  try clear hx1
                  try clear c2
                  try clear p2
                  try clear c3
                  try clear p3
                  try clear q3
                  try clear hx3
                  try clear c4
                  try clear p4
                  try clear q4
                  try clear hx4
                  try clear hf4
                  try clear c5
                  try clear c5b0
                  try clear p5
                  try clear q5
                  try clear hx5
                  try clear hf5
                  try clear c6
                  try clear c6b0
                  try clear p6
                  try clear c7
                  try clear c7b0
                  try clear c8
                  try clear c8b0
                  try clear p9
                  try clear q9
                  try clear hx9
                  try clear hf9
                  try clear p10
                  try clear q10
                  try clear hx10
                  try clear hf10
                  try clear c11
                  try clear c16
                  try clear c16b0
                  try clear c17
                  try clear c17b0
                  try clear c18
                  try clear c18b0
                  try clear c19
                  try clear c19b0
                  try clear c20
                  try clear c20b0
                  try clear c22
                  try clear c27
                  try clear c27b0
                  try clear c28
                  try clear c28b0
                  try clear c29
                  try clear c29b0
                  try clear c30
                  try clear c30b0
                  try clear c31
                  try clear c31b0
                  try clear p31
                  try clear q31
                  try clear hx31
                  try clear p32
                  try clear q32
                  try clear hx32
                  try clear c33
                  try clear c37
                  try clear c37b0
                  try clear c38
                  try clear c38b0
                  try clear c39
                  try clear c39b0
                  try clear c40
                  try clear c40b0
                  try clear c41
                  try clear c41b0
                  try clear p42
                  try clear q42
                  try clear hx42
                  try clear hf42
                  try clear p43
                  try clear q43
                  try clear hx43
                  try clear hf43
                  try clear c47
                  try clear c47b0
                  try clear c48
                  try clear c48b0
                  try clear c49
                  try clear c49b0
                  try clear c50
                  try clear c50b0
                  try clear p51
                  try clear q51
                  try clear hx51
                  try clear hf51
                  try clear p52
                  try clear q52
                  try clear hx52
                  try clear hf52
                  try clear hx10_0
                  try clear hx312_0
                  try clear hx313_0
                  try clear hx316_0
                  try clear hx317_0
                  try clear hx319_0
                  try clear hx320_0
                  try clear hx322_0
                  try clear hx323_0
                  try clear hx326_0
                  try clear hx327_0
                  try clear hx42_0
                  try clear hx43_0
                  try clear hx51_0
                  try clear hx52_0
                  try clear hx9_0
                  try clear p1
                  try clear p10
                  try clear p2
                  try clear p3
                  try clear p31
                  try clear p312
                  try clear p313
                  try clear p316
                  try clear p317
                  try clear p319
                  try clear p32
                  try clear p320
                  try clear p322
                  try clear p323
                  try clear p326
                  try clear p327
                  try clear p4
                  try clear p42
                  try clear p43
                  try clear p5
                  try clear p51
                  try clear p52
                  try clear p6
                  try clear p9
                  try clear q1
                  try clear q10
                  try clear q3
                  try clear q31
                  try clear q312
                  try clear q313
                  try clear q316
                  try clear q317
                  try clear q319
                  try clear q32
                  try clear q320
                  try clear q322
                  try clear q323
                  try clear q326
                  try clear q327
                  try clear q4
                  try clear q42
                  try clear q43
                  try clear q5
                  try clear q51
                  try clear q52
                  try clear q9
                  obtain ⟨x10_4,rfl,HA,HK4,HO_0,HK,HB⟩ := hrel
                  cases gk with
                  | zero => exact absurd HA.out (by simp [slices_partitionOrdered_uint64.l3])
                  | succ k4 =>
                   have H := HA.out
                   clear HA
                   simp only [slices_partitionOrdered_uint64.l3] at H
                   by_cases c57 : x10_4 ≤ x11_3
                   ·rw [if_pos c57] at H
                    have c57b0 : decide (x10_4 ≤ x11_3) = true := decide_eq_true c57
                    clear c57
                    (first|rw [c57b0]|(simp only [i64_w,i32_w];rw [c57b0])|skip)
                    by_cases c58 : 0 ≤ x10_4
                    ·rw [if_pos c58] at H
                     have c58b0 : decide (0 ≤ x10_4) = true := decide_eq_true c58
                     clear c58
                     by_cases c59 : x10_4 < (x0_3.length : Int)
                     ·rw [if_pos c59] at H
                      have c59b0 : decide (x10_4 < (x0_3.length : Int)) = true := decide_eq_true c59
                      clear c59
                      by_cases c60 : 0 ≤ a1
                      ·rw [if_pos c60] at H
                       have c60b0 : decide (0 ≤ a1) = true := decide_eq_true c60
                       clear c60
                       by_cases c61 : a1 < (x0_3.length : Int)
                       ·rw [if_pos c61] at H
                        have c61b0 : decide (a1 < (x0_3.length : Int)) = true := decide_eq_true c61
                        clear c61
                        replace H := Option.bind_eq_some_iff.mp H
                        obtain ⟨t332,A620,H⟩ := H
                        try dsimp only at H
                        have A62 := am A620
                        clear A620
                        by_cases c63 : t332 = true
                        ·subst c63
                         rw [if_pos rfl] at H
                         have H' := am H
                         clear H
                         try go_wp2
                         have n0_ := am (Kd.R_drew HO_0.out)
                         have n1_ := am (Kept.drew HK.out)
                         have n2_ := am (below_drew1 HB.out)
                         clear HO_0
                         clear HK
                         clear HB
                         have HO_0 := n0_
                         have HK := n1_
                         have HB := n2_
                         clear n0_ n1_ n2_
                         have p330 : 0 ≤ (x10_4 : Int) := od
                         have q330 : x10_4 < (x0_3.length : Int) := od
                         obtain ⟨ad330,e330,hx330_0⟩ := Kd.at_int (Kd.R_reads' HO_0.out).2.2 x10_4 p330 q330
                         obtain rfl : (⟨go9,0,none⟩ : Addr) = ad330 := (by injection e330)
                         (first|simp only [add_plain] at hx330_0|simp only [add_at] at hx330_0|simp only [Addr.add,Nat.zero_add] at hx330_0|skip)
                         replace p330 := eq_true p330
                         replace q330 := eq_true q330
                         have p331 : 0 ≤ (a1 : Int) := od
                         have q331 : a1 < (x0_3.length : Int) := od
                         obtain ⟨ad331,e331,hx331_0⟩ := Kd.at_int (Kd.R_reads' HO_0.out).2.2 a1 p331 q331
                         obtain rfl : (⟨go9,0,none⟩ : Addr) = ad331 := (by injection e331)
                         (first|simp only [add_plain] at hx331_0|simp only [add_at] at hx331_0|simp only [Addr.add,Nat.zero_add] at hx331_0|skip)
                         replace p331 := eq_true p331
                         replace q331 := eq_true q331
                         refine start_ (n := 14) (S := fun w' => w'.cell? ⟨go9,(x10_4).toNat,none⟩ = some (.int .u64 (rd x0_3 x10_4)) ∧ w'.cell? ⟨go9,(a1).toNat,none⟩ = some (.int .u64 (rd x0_3 a1))) (ds := []) (bz 14 0) (by kernel_rfl) rfl rfl ⟨hx330_0,hx331_0⟩ (fun hHeld => ?_);refine with_tabW slices_partitionOrdered_uint64.tab13 slices_partitionOrdered_uint64.bits13 (fun HT_ HW_ => ?_)
                         generalize wr.drew = w64 at HO_0 HK HB hx330_0 hx331_0 hHeld ⊢
                         refine pk 0 99 (bz 14 1) HT_ ?_
                         refine pk 1 100 (bz 14 3) HT_ ?_
                         refine pk 2 101 (bz 14 7) HT_ ?_
                         refine pk 3 102 (bz 14 15) HT_ ?_
                         refine pk 4 103 (bz 14 31) HT_ ?_
                         refine pk 5 104 (bz 14 63) HT_ ?_
                         refine pk 6 105 (bz 14 127) HT_ ?_
                         refine pk 8 107 (bz 14 383) HT_ ?_
                         refine pk 9 108 (bz 14 895) HT_ ?_
                         refine pk 10 109 (bz 14 1919) HT_ ?_
                         refine tk 7 106 (bz 14 2047) HT_ HW_ hHeld ?_
                         refine tk 11 110 (bz 14 4095) HT_ HW_ hHeld ?_
                         refine on 12 111 (bz 14 8191) HT_ (fun K hK => ?_)
                         refine goes_ Try.func111 (by kernel_rfl) rfl #[.int .u64 (rd x0_3 x10_4),.int .u64 (rd x0_3 a1)] (by rfl) rfl rfl (by (try simp only [List.map_toArray,List.map_cons,List.map_nil]);first|done|rfl|(simp only [List.length_drop,List.length_take];rfl)) ?_
                         with_reducible refine (cmp_Less_uint64.calls (rd x0_3 x10_4) (rd x0_3 a1) true _ A62.out).mono ?_
                         rintro e w' ⟨rfl,⟨nd,rfl⟩⟩
                         refine ⟨_,rfl,?_⟩
                         refine hK.out _ _ ⟨hHeld.1,hHeld.2⟩ (fun hHeld => ?_)
                         clear hK K
                         refine nm 111 ?_
                         refine pk 13 112 (bz 14 16383) HT_ ?_
                         refine done_ (done_of HT_.out (by kernel_rfl)) ?_
                         try go_wp2
                         go_roundg k4
                         case measure => have := HJ10.out;have := HJ25.out;have := HK3.out;have := HK4.out;omega
                         case rel => exact ⟨(wrap64 (x10_4 + 1)),(by first|rfl|(simp;done)|(simp [*];done)),H',⟨by have := HJ10.out;have := HJ25.out;have := HK3.out;have := HK4.out;omega⟩,⟨by (try simp only [hl0_10]);(try simp only [hl0_3]);(with_reducible repeat (first|apply Kd.R_alloc|apply Kd.R_drewN|apply Kd.R_drew));exact HO_0.out⟩,⟨by repeat (first|(with_reducible first|exact HK.out|apply Kept.alloc|apply Kept.drewN|apply Kept.drew)|exact HK.out)⟩,⟨bb HB⟩⟩
                        ·replace c63 := Bool.eq_false_iff.mpr c63
                         subst c63
                         rw [if_neg (show ¬ (false = true) by decide)] at H
                         have H' := am H
                         clear H
                         try go_wp2
                         have n0_ := am (Kd.R_drew HO_0.out)
                         have n1_ := am (Kept.drew HK.out)
                         have n2_ := am (below_drew1 HB.out)
                         clear HO_0
                         clear HK
                         clear HB
                         have HO_0 := n0_
                         have HK := n1_
                         have HB := n2_
                         clear n0_ n1_ n2_
                         have p330 : 0 ≤ (x10_4 : Int) := od
                         have q330 : x10_4 < (x0_3.length : Int) := od
                         obtain ⟨ad330,e330,hx330_0⟩ := Kd.at_int (Kd.R_reads' HO_0.out).2.2 x10_4 p330 q330
                         obtain rfl : (⟨go9,0,none⟩ : Addr) = ad330 := (by injection e330)
                         (first|simp only [add_plain] at hx330_0|simp only [add_at] at hx330_0|simp only [Addr.add,Nat.zero_add] at hx330_0|skip)
                         replace p330 := eq_true p330
                         replace q330 := eq_true q330
                         have p331 : 0 ≤ (a1 : Int) := od
                         have q331 : a1 < (x0_3.length : Int) := od
                         obtain ⟨ad331,e331,hx331_0⟩ := Kd.at_int (Kd.R_reads' HO_0.out).2.2 a1 p331 q331
                         obtain rfl : (⟨go9,0,none⟩ : Addr) = ad331 := (by injection e331)
                         (first|simp only [add_plain] at hx331_0|simp only [add_at] at hx331_0|simp only [Addr.add,Nat.zero_add] at hx331_0|skip)
                         replace p331 := eq_true p331
                         replace q331 := eq_true q331
                         refine start_ (n := 14) (S := fun w' => w'.cell? ⟨go9,(x10_4).toNat,none⟩ = some (.int .u64 (rd x0_3 x10_4)) ∧ w'.cell? ⟨go9,(a1).toNat,none⟩ = some (.int .u64 (rd x0_3 a1))) (ds := []) (bz 14 0) (by kernel_rfl) rfl rfl ⟨hx330_0,hx331_0⟩ (fun hHeld => ?_);refine with_tabW slices_partitionOrdered_uint64.tab13 slices_partitionOrdered_uint64.bits13 (fun HT_ HW_ => ?_)
                         generalize wr.drew = w65 at HO_0 HK HB hx330_0 hx331_0 hHeld ⊢
                         refine pk 0 99 (bz 14 1) HT_ ?_
                         refine pk 1 100 (bz 14 3) HT_ ?_
                         refine pk 2 101 (bz 14 7) HT_ ?_
                         refine pk 3 102 (bz 14 15) HT_ ?_
                         refine pk 4 103 (bz 14 31) HT_ ?_
                         refine pk 5 104 (bz 14 63) HT_ ?_
                         refine pk 6 105 (bz 14 127) HT_ ?_
                         refine pk 8 107 (bz 14 383) HT_ ?_
                         refine pk 9 108 (bz 14 895) HT_ ?_
                         refine pk 10 109 (bz 14 1919) HT_ ?_
                         refine tk 7 106 (bz 14 2047) HT_ HW_ hHeld ?_
                         refine tk 11 110 (bz 14 4095) HT_ HW_ hHeld ?_
                         refine on 12 111 (bz 14 8191) HT_ (fun K hK => ?_)
                         refine goes_ Try.func111 (by kernel_rfl) rfl #[.int .u64 (rd x0_3 x10_4),.int .u64 (rd x0_3 a1)] (by rfl) rfl rfl (by (try simp only [List.map_toArray,List.map_cons,List.map_nil]);first|done|rfl|(simp only [List.length_drop,List.length_take];rfl)) ?_
                         with_reducible refine (cmp_Less_uint64.calls (rd x0_3 x10_4) (rd x0_3 a1) false _ A62.out).mono ?_
                         rintro e w' ⟨rfl,⟨nd,rfl⟩⟩
                         refine ⟨_,rfl,?_⟩
                         refine hK.out _ _ ⟨hHeld.1,hHeld.2⟩ (fun hHeld => ?_)
                         clear hK K
                         refine nm 111 ?_
                         refine pk 13 112 (bz 14 16383) HT_ ?_
                         refine done_ (done_of HT_.out (by kernel_rfl)) ?_
                         try go_wp2
                         go_meet
                         case rel => exact ⟨_,(x10_4),(by first|rfl|(simp;done)|(simp [*];done)),H',⟨by have := HJ10.out;have := HJ25.out;have := HK3.out;have := HK4.out;first|omega|exact Nat.le_refl _⟩,⟨by (try simp only [hl0_10]);(try simp only [hl0_3]);(with_reducible repeat (first|apply Kd.R_alloc|apply Kd.R_drewN|apply Kd.R_drew));exact HO_0.out⟩,⟨by repeat (first|(with_reducible first|exact HK.out|apply Kept.alloc|apply Kept.drewN|apply Kept.drew)|exact HK.out)⟩,⟨bb HB⟩⟩
                       ·rw [if_neg c61] at H
                        exact absurd H (by simp)
                      ·rw [if_neg c60] at H
                       exact absurd H (by simp)
                     ·rw [if_neg c59] at H
                      exact absurd H (by simp)
                    ·rw [if_neg c58] at H
                     exact absurd H (by simp)
                   ·rw [if_neg c57] at H
                    have c57b0 : decide (x10_4 ≤ x11_3) = false := decide_eq_false c57
                    clear c57
                    (first|rw [c57b0]|(simp only [i64_w,i32_w];rw [c57b0])|skip)
                    have H' := am H
                    clear H
                    try go_wp2
                    have n0_ := am (Kd.R_drew HO_0.out)
                    have n1_ := am (Kept.drew HK.out)
                    have n2_ := am (below_drew1 HB.out)
                    clear HO_0
                    clear HK
                    clear HB
                    have HO_0 := n0_
                    have HK := n1_
                    have HB := n2_
                    clear n0_ n1_ n2_
                    refine start_ (n := 14) (S := fun w' => True) (ds := []) (bz 14 0) (by kernel_rfl) rfl rfl trivial (fun hHeld => ?_);refine with_tabW slices_partitionOrdered_uint64.tab13 slices_partitionOrdered_uint64.bits13 (fun HT_ HW_ => ?_)
                    generalize wr.drew = w66 at HO_0 HK HB hHeld ⊢
                    refine pk 0 99 (bz 14 1) HT_ ?_
                    refine pk 1 100 (bz 14 3) HT_ ?_
                    refine pk 2 101 (bz 14 7) HT_ ?_
                    refine pk 3 102 (bz 14 15) HT_ ?_
                    refine pz 4 103 (bz 14 31) HT_ ?_
                    refine pz 5 104 (bz 14 63) HT_ ?_
                    refine pz 6 105 (bz 14 127) HT_ ?_
                    refine pz 7 106 (bz 14 255) HT_ ?_
                    refine pz 8 107 (bz 14 511) HT_ ?_
                    refine pz 9 108 (bz 14 1023) HT_ ?_
                    refine pz 10 109 (bz 14 2047) HT_ ?_
                    refine pz 11 110 (bz 14 4095) HT_ ?_
                    refine pz 12 111 (bz 14 8191) HT_ ?_
                    refine pk 13 112 (bz 14 16383) HT_ ?_
                    refine done_ (done_of HT_.out (by kernel_rfl)) ?_
                    try go_wp2
                    go_meet
                    case rel => exact ⟨_,(x10_4),(by first|rfl|(simp;done)|(simp [*];done)),H',⟨by have := HJ10.out;have := HJ25.out;have := HK3.out;have := HK4.out;first|omega|exact Nat.le_refl _⟩,⟨by (try simp only [hl0_10]);(try simp only [hl0_3]);(with_reducible repeat (first|apply Kd.R_alloc|apply Kd.R_drewN|apply Kd.R_drew));exact HO_0.out⟩,⟨by repeat (first|(with_reducible first|exact HK.out|apply Kept.alloc|apply Kept.drewN|apply Kept.drew)|exact HK.out)⟩,⟨bb HB⟩⟩
                case rest =>
                 clear HC56
                 try clear c1
                 try clear p1
                 try clear q1
                 try clear hx1
                 try clear c2
                 try clear p2
                 try clear c3
                 try clear p3
                 try clear q3
                 try clear hx3
                 try clear c4
                 try clear p4
                 try clear q4
                 try clear hx4
                 try clear hf4
                 try clear c5
                 try clear c5b0
                 try clear p5
                 try clear q5
                 try clear hx5
                 try clear hf5
                 try clear c6
                 try clear c6b0
                 try clear p6
                 try clear c7
                 try clear c7b0
                 try clear c8
                 try clear c8b0
                 try clear p9
                 try clear q9
                 try clear hx9
                 try clear hf9
                 try clear p10
                 try clear q10
                 try clear hx10
                 try clear hf10
                 try clear c11
                 try clear c16
                 try clear c16b0
                 try clear c17
                 try clear c17b0
                 try clear c18
                 try clear c18b0
                 try clear c19
                 try clear c19b0
                 try clear c20
                 try clear c20b0
                 try clear c22
                 try clear c27
                 try clear c27b0
                 try clear c28
                 try clear c28b0
                 try clear c29
                 try clear c29b0
                 try clear c30
                 try clear c30b0
                 try clear c31
                 try clear c31b0
                 try clear p31
                 try clear q31
                 try clear hx31
                 try clear p32
                 try clear q32
                 try clear hx32
                 try clear c33
                 try clear p33
                 try clear q33
                 try clear hx33
                 try clear c37
                 try clear c37b0
                 try clear c38
                 try clear c38b0
                 try clear c39
                 try clear c39b0
                 try clear c40
                 try clear c40b0
                 try clear c41
                 try clear c41b0
                 try clear p42
                 try clear q42
                 try clear hx42
                 try clear hf42
                 try clear p43
                 try clear q43
                 try clear hx43
                 try clear hf43
                 try clear c47
                 try clear c47b0
                 try clear c48
                 try clear c48b0
                 try clear c49
                 try clear c49b0
                 try clear c50
                 try clear c50b0
                 try clear p51
                 try clear q51
                 try clear hx51
                 try clear hf51
                 try clear p52
                 try clear q52
                 try clear hx52
                 try clear hf52
                 try clear c57
                 try clear c57b0
                 try clear c58
                 try clear c58b0
                 try clear c59
                 try clear c59b0
                 try clear c60
                 try clear c60b0
                 try clear c61
                 try clear c61b0
                 try clear c63
                 try clear p64
                 try clear hx10_0
                 try clear hx312_0
                 try clear hx313_0
                 try clear hx316_0
                 try clear hx317_0
                 try clear hx319_0
                 try clear hx320_0
                 try clear hx322_0
                 try clear hx323_0
                 try clear hx326_0
                 try clear hx327_0
                 try clear hx330_0
                 try clear hx331_0
                 try clear hx42_0
                 try clear hx43_0
                 try clear hx51_0
                 try clear hx52_0
                 try clear hx9_0
                 try clear p1
                 try clear p10
                 try clear p2
                 try clear p3
                 try clear p31
                 try clear p312
                 try clear p313
                 try clear p316
                 try clear p317
                 try clear p319
                 try clear p32
                 try clear p320
                 try clear p322
                 try clear p323
                 try clear p326
                 try clear p327
                 try clear p330
                 try clear p331
                 try clear p4
                 try clear p42
                 try clear p43
                 try clear p5
                 try clear p51
                 try clear p52
                 try clear p6
                 try clear p9
                 try clear q1
                 try clear q10
                 try clear q3
                 try clear q31
                 try clear q312
                 try clear q313
                 try clear q316
                 try clear q317
                 try clear q319
                 try clear q32
                 try clear q320
                 try clear q322
                 try clear q323
                 try clear q326
                 try clear q327
                 try clear q330
                 try clear q331
                 try clear q4
                 try clear q42
                 try clear q43
                 try clear q5
                 try clear q51
                 try clear q52
                 try clear q9
                 obtain ⟨kq,x10_55,rfl,HA,HJ55,HO_0,HK,HB⟩ := hcut
                 cases kq with
                 | zero => exact absurd HA.out (by simp [slices_partitionOrdered_uint64.j6])
                 | succ kj55 =>
                  have H := HA.out
                  clear HA
                  simp only [slices_partitionOrdered_uint64.j6] at H
                  have H' := am H
                  clear H
                  go_wp2
                  go_loopg [11] kj55 (fun kq v11 w' => ∃ (x11_5 : Int),v11 = .int .i64 x11_5 ∧ Aside0 (slices_partitionOrdered_uint64.l4 kq x0_3 a1 x10_55 x11_5 = some (r1,r2,r3)) ∧ Aside0 (kq ≤ kj55) ∧ Aside0 (Kd.R (Kd.int .u64) 22 w' w0.heap.size (fun k_ => (P0_ k_ ∨ w.heap.size ≤ k_)) (.slice (some ⟨go9,0,none⟩) x0_3.length co13) x0_3) ∧ Aside0 (Kept w w' (fun k_ => P0_ k_)) ∧ Aside0 (Below w0.heap.size w0 w'))
                  case atStart => exact ⟨(x11_3),(by first|rfl|(simp;done)|(simp [*];done)),H',⟨Nat.le_refl _⟩,⟨by (try simp only [hl0_10]);(try simp only [hl0_3]);(with_reducible repeat (first|apply Kd.R_alloc|apply Kd.R_drewN|apply Kd.R_drew));exact HO_0.out⟩,⟨by repeat (first|(with_reducible first|exact HK.out|apply Kept.alloc|apply Kept.drewN|apply Kept.drew)|exact HK.out)⟩,⟨bb HB⟩⟩
                  case round =>
                   clear H'
                   try clear c1
                   try clear p1
                   try clear q1
                   try clear hx1
                   try clear c2
                   try clear p2
                   try clear c3
                   try clear p3
                   try clear q3
                   try clear hx3
                   try clear c4
                   try clear p4
                   try clear q4
                   try clear hx4
                   try clear hf4
                   try clear c5
                   try clear c5b0
                   try clear p5
                   try clear q5
                   try clear hx5
                   try clear hf5
                   try clear c6
                   try clear c6b0
                   try clear p6
                   try clear c7
                   try clear c7b0
                   try clear c8
                   try clear c8b0
                   try clear p9
                   try clear q9
                   try clear hx9
                   try clear hf9
                   try clear p10
                   try clear q10
                   try clear hx10
                   try clear hf10
                   try clear c11
                   try clear c16
                   try clear c16b0
                   try clear c17
                   try clear c17b0
                   try clear c18
                   try clear c18b0
                   try clear c19
                   try clear c19b0
                   try clear c20
                   try clear c20b0
                   try clear c22
                   try clear c27
                   try clear c27b0
                   try clear c28
                   try clear c28b0
                   try clear c29
                   try clear c29b0
                   try clear c30
                   try clear c30b0
                   try clear c31
                   try clear c31b0
                   try clear p31
                   try clear q31
                   try clear hx31
                   try clear p32
                   try clear q32
                   try clear hx32
                   try clear c33
                   try clear p33
                   try clear q33
                   try clear hx33
                   try clear c37
                   try clear c37b0
                   try clear c38
                   try clear c38b0
                   try clear c39
                   try clear c39b0
                   try clear c40
                   try clear c40b0
                   try clear c41
                   try clear c41b0
                   try clear p42
                   try clear q42
                   try clear hx42
                   try clear hf42
                   try clear p43
                   try clear q43
                   try clear hx43
                   try clear hf43
                   try clear c47
                   try clear c47b0
                   try clear c48
                   try clear c48b0
                   try clear c49
                   try clear c49b0
                   try clear c50
                   try clear c50b0
                   try clear p51
                   try clear q51
                   try clear hx51
                   try clear hf51
                   try clear p52
                   try clear q52
                   try clear hx52
                   try clear hf52
                   try clear c57
                   try clear c57b0
                   try clear c58
                   try clear c58b0
                   try clear c59
                   try clear c59b0
                   try clear c60
                   try clear c60b0
                   try clear c61
                   try clear c61b0
                   try clear c63
                   try clear p64
                   try clear hx10_0
                   try clear hx312_0
                   try clear hx313_0
                   try clear hx316_0
                   try clear hx317_0
                   try clear hx319_0
                   try clear hx320_0
                   try clear hx322_0
                   try clear hx323_0
                   try clear hx326_0
                   try clear hx327_0
                   try clear hx330_0
                   try clear hx331_0
                   try clear hx42_0
                   try clear hx43_0
                   try clear hx51_0
                   try clear hx52_0
                   try clear hx9_0
                   try clear p1
                   try clear p10
                   try clear p2
                   try clear p3
                   try clear p31
                   try clear p312
                   try clear p313
                   try clear p316
                   try clear p317
                   try clear p319
                   try clear p32
                   try clear p320
                   try clear p322
                   try clear p323
                   try clear p326
                   try clear p327
                   try clear p33
                   try clear p330
                   try clear p331
                   try clear p4
                   try clear p42
                   try clear p43
                   try clear p5
                   try clear p51
                   try clear p52
                   try clear p6
                   try clear p64
                   try clear p9
                   try clear q1
                   try clear q10
                   try clear q3
                   try clear q31
                   try clear q312
                   try clear q313
                   try clear q316
                   try clear q317
                   try clear q319
                   try clear q32
                   try clear q320
                   try clear q322
                   try clear q323
                   try clear q326
                   try clear q327
                   try clear q33
                   try clear q330
                   try clear q331
                   try clear q4
                   try clear q42
                   try clear q43
                   try clear q5
                   try clear q51
                   try clear q52
                   try clear q9
                   obtain ⟨x11_5,rfl,HA,HK5,HO_0,HK,HB⟩ := hrel
                   cases gk with
                   | zero => exact absurd HA.out (by simp [slices_partitionOrdered_uint64.l4])
                   | succ k5 =>
                    have H := HA.out
                    clear HA
                    simp only [slices_partitionOrdered_uint64.l4] at H
                    by_cases c67 : x10_55 ≤ x11_5
                    ·rw [if_pos c67] at H
                     have c67b0 : decide (x10_55 ≤ x11_5) = true := decide_eq_true c67
                     clear c67
                     by_cases c68 : 0 ≤ x11_5
                     ·rw [if_pos c68] at H
                      have c68b0 : decide (0 ≤ x11_5) = true := decide_eq_true c68
                      clear c68
                      by_cases c69 : x11_5 < (x0_3.length : Int)
                      ·rw [if_pos c69] at H
                       have c69b0 : decide (x11_5 < (x0_3.length : Int)) = true := decide_eq_true c69
                       clear c69
                       by_cases c70 : 0 ≤ a1
                       ·rw [if_pos c70] at H
                        have c70b0 : decide (0 ≤ a1) = true := decide_eq_true c70
                        clear c70
                        by_cases c71 : a1 < (x0_3.length : Int)
                        ·rw [if_pos c71] at H
                         have c71b0 : decide (a1 < (x0_3.length : Int)) = true := decide_eq_true c71
                         clear c71
                         replace H := Option.bind_eq_some_iff.mp H
                         obtain ⟨t335,A720,H⟩ := H
                         try dsimp only at H
                         have A72 := am A720
                         clear A720
                         by_cases c73 : t335 = true
                         ·subst c73
                          rw [if_pos rfl] at H
                          by_cases c74 : x10_55 > x11_5
                          ·rw [if_pos c74] at H
                           have c74b0 : decide (x11_5 < x10_55) = true := decide_eq_true c74
                           clear c74
                           obtain ⟨y338,hy338⟩ : ∃ y_ : List Int,y_ = (x0_3.set (x11_5 : Int).toNat (rd x0_3 a1)) := ⟨_,rfl⟩
                           replace H : (some (x11_5,false,(y338.set (a1 : Int).toNat (rd x0_3 x11_5)))) = some (r1,r2,r3) := by first|(rw [hy338];with_reducible exact H)|(have H2_ := (Option.bind_some _ _).symm.trans H;rw [hy338];with_reducible exact H2_)|(have H2_ := (Option.bind_some _ _).symm.trans H;with_reducible exact H2_)|with_reducible exact H|(rw [hy338];exact H)|exact H
                           have Ny338 := am hy338
                           clear hy338
                           obtain ⟨y339,hy339⟩ : ∃ y_ : List Int,y_ = (y338.set (a1 : Int).toNat (rd x0_3 x11_5)) := ⟨_,rfl⟩
                           replace H : (some (x11_5,false,y339)) = some (r1,r2,r3) := by first|(rw [hy339];with_reducible exact H)|(have H2_ := (Option.bind_some _ _).symm.trans H;rw [hy339];with_reducible exact H2_)|(have H2_ := (Option.bind_some _ _).symm.trans H;with_reducible exact H2_)|with_reducible exact H|(rw [hy339];exact H)|exact H
                           have Ny339 := am hy339
                           clear hy339
                           simp only [Option.some.injEq,Prod.mk.injEq] at H
                           obtain ⟨rfl,rfl,rfl⟩ := H
                           try go_wp2
                           have n0_ := am (Kd.R_drew HO_0.out)
                           have n1_ := am (Kept.drew HK.out)
                           have n2_ := am (below_drew1 HB.out)
                           clear HO_0
                           clear HK
                           clear HB
                           have HO_0 := n0_
                           have HK := n1_
                           have HB := n2_
                           clear n0_ n1_ n2_
                           have p333 : 0 ≤ (x11_5 : Int) := od
                           have q333 : x11_5 < (x0_3.length : Int) := od
                           obtain ⟨ad333,e333,hx333_0⟩ := Kd.at_int (Kd.R_reads' HO_0.out).2.2 x11_5 p333 q333
                           obtain rfl : (⟨go9,0,none⟩ : Addr) = ad333 := (by injection e333)
                           (first|simp only [add_plain] at hx333_0|simp only [add_at] at hx333_0|simp only [Addr.add,Nat.zero_add] at hx333_0|skip)
                           replace p333 := eq_true p333
                           replace q333 := eq_true q333
                           have p334 : 0 ≤ (a1 : Int) := od
                           have q334 : a1 < (x0_3.length : Int) := od
                           obtain ⟨ad334,e334,hx334_0⟩ := Kd.at_int (Kd.R_reads' HO_0.out).2.2 a1 p334 q334
                           obtain rfl : (⟨go9,0,none⟩ : Addr) = ad334 := (by injection e334)
                           (first|simp only [add_plain] at hx334_0|simp only [add_at] at hx334_0|simp only [Addr.add,Nat.zero_add] at hx334_0|skip)
                           replace p334 := eq_true p334
                           replace q334 := eq_true q334
                           refine start_ (n := 15) (S := fun w' => w'.cell? ⟨go9,(x11_5).toNat,none⟩ = some (.int .u64 (rd x0_3 x11_5)) ∧ w'.cell? ⟨go9,(a1).toNat,none⟩ = some (.int .u64 (rd x0_3 a1))) (ds := []) (bz 15 0) (by kernel_rfl) rfl rfl ⟨hx333_0,hx334_0⟩ (fun hHeld => ?_);refine with_tabW slices_partitionOrdered_uint64.tab15 slices_partitionOrdered_uint64.bits15 (fun HT_ HW_ => ?_)
                           generalize wr.drew = w77 at HO_0 HK HB hx333_0 hx334_0 hHeld ⊢
                           refine pk 0 115 (bz 15 1) HT_ ?_
                           refine pk 1 116 (bz 15 3) HT_ ?_
                           refine pk 2 117 (bz 15 7) HT_ ?_
                           refine pk 3 118 (bz 15 15) HT_ ?_
                           refine pk 4 119 (bz 15 31) HT_ ?_
                           refine pk 5 120 (bz 15 63) HT_ ?_
                           refine pk 6 121 (bz 15 127) HT_ ?_
                           refine pk 8 123 (bz 15 383) HT_ ?_
                           refine pk 9 124 (bz 15 895) HT_ ?_
                           refine pk 10 125 (bz 15 1919) HT_ ?_
                           refine tk 7 122 (bz 15 2047) HT_ HW_ hHeld ?_
                           refine tk 11 126 (bz 15 4095) HT_ HW_ hHeld ?_
                           refine on 12 127 (bz 15 8191) HT_ (fun K hK => ?_)
                           refine goes_ Try.func111 (by kernel_rfl) rfl #[.int .u64 (rd x0_3 x11_5),.int .u64 (rd x0_3 a1)] (by rfl) rfl rfl (by (try simp only [List.map_toArray,List.map_cons,List.map_nil]);first|done|rfl|(simp only [List.length_drop,List.length_take];rfl)) ?_
                           with_reducible refine (cmp_Less_uint64.calls (rd x0_3 x11_5) (rd x0_3 a1) true _ A72.out).mono ?_
                           rintro e w' ⟨rfl,⟨nd,rfl⟩⟩
                           refine ⟨_,rfl,?_⟩
                           refine hK.out _ _ ⟨hHeld.1,hHeld.2⟩ (fun hHeld => ?_)
                           clear hK K
                           refine nm 127 ?_
                           refine pk 13 128 (bz 15 16383) HT_ ?_
                           refine pk 14 129 (bz 15 32767) HT_ ?_
                           refine done_ (done_of HT_.out (by kernel_rfl)) ?_
                           try go_wp2
                           (try (rw [drewN_self w77];generalize hq_ : World.drewN w77 _ = w77;have n0_ : Aside0 (Kd.R (Kd.int .u64) 22 w77 w0.heap.size (fun k_ => (P0_ k_ ∨ w.heap.size ≤ k_)) (.slice (some ⟨go9,0,none⟩) x0_3.length co13) x0_3) := ⟨by rw [← hq_];exact (rr HO_0)⟩;have n1_ : Aside0 (Kept w w77 (fun k_ => P0_ k_)) := ⟨by rw [← hq_];exact (by repeat (first|(with_reducible first|exact HK.out|apply Kept.alloc|apply Kept.drewN|apply Kept.drew)|exact HK.out))⟩;have n2_ : Aside0 (Below w0.heap.size w0 w77) := ⟨by rw [← hq_];exact (bb HB)⟩;clear HO_0 HK HB hq_;have HO_0 := n0_;have HK := n1_;have HB := n2_;clear n0_ n1_ n2_))
                           have n0_ := am (Kd.R_drew HO_0.out)
                           have n1_ := am (Kept.drew HK.out)
                           have n2_ := am (below_drew1 HB.out)
                           clear HO_0
                           clear HK
                           clear HB
                           have HO_0 := n0_
                           have HK := n1_
                           have HB := n2_
                           clear n0_ n1_ n2_
                           have p336 : 0 ≤ (a1 : Int) := od
                           have q336 : a1 < (x0_3.length : Int) := od
                           obtain ⟨ad336,e336,hx336_0⟩ := Kd.at_int (Kd.R_reads' HO_0.out).2.2 a1 p336 q336
                           obtain rfl : (⟨go9,0,none⟩ : Addr) = ad336 := (by injection e336)
                           (first|simp only [add_plain] at hx336_0|simp only [add_at] at hx336_0|simp only [Addr.add,Nat.zero_add] at hx336_0|skip)
                           replace p336 := eq_true p336
                           replace q336 := eq_true q336
                           have p337 : 0 ≤ (x11_5 : Int) := od
                           have q337 : x11_5 < (x0_3.length : Int) := od
                           obtain ⟨ad337,e337,hx337_0⟩ := Kd.at_int (Kd.R_reads' HO_0.out).2.2 x11_5 p337 q337
                           obtain rfl : (⟨go9,0,none⟩ : Addr) = ad337 := (by injection e337)
                           (first|simp only [add_plain] at hx337_0|simp only [add_at] at hx337_0|simp only [Addr.add,Nat.zero_add] at hx337_0|skip)
                           replace p337 := eq_true p337
                           replace q337 := eq_true q337
                           have p75 : 0 ≤ (x11_5 : Int) := od
                           have q75 : (x11_5 : Int) < ((x0_3.length : Int) : Int) := od
                           obtain ⟨hx75_0,hf75_0⟩ := Kd.R_celln 0 HO_0.out (x11_5 : Int) p75 q75
                           replace p75 := eq_true p75
                           replace q75 := eq_true q75
                           have HP79 := Kd.R_putn HO_0.out (x11_5 : Int) (rd x0_3 a1)
                           rw [← Ny338.out] at HP79
                           have HQ79 := am HP79
                           clear HP79
                           have p76 : 0 ≤ (a1 : Int) := od
                           have q76 : (a1 : Int) < ((x0_3.length : Int) : Int) := od
                           obtain ⟨hx76_0,hf76_0⟩ := Kd.R_celln 0 HQ79.out (a1 : Int) p76 q76
                           replace p76 := eq_true p76
                           replace q76 := eq_true q76
                           have HP80 := Kd.R_putn HQ79.out (a1 : Int) (rd x0_3 x11_5)
                           rw [← Ny339.out] at HP80
                           have HQ80 := am HP80
                           clear HP80
                           refine start_ (n := 16) (S := fun w' => w'.cell? ⟨go9,(a1).toNat,none⟩ = some (.int .u64 (rd x0_3 a1)) ∧ w'.cell? ⟨go9,(x11_5).toNat,none⟩ = some (.int .u64 (rd x0_3 x11_5))) (ds := [13,15]) (bz 16 0) (by kernel_rfl) rfl rfl ⟨hx336_0,hx337_0⟩ (fun hHeld => ?_);refine with_tabW slices_partitionOrdered_uint64.tab21 slices_partitionOrdered_uint64.bits21 (fun HT_ HW_ => ?_)
                           generalize w77.drew = w78 at HO_0 HK HB HQ79 HQ80 hf75_0 hf76_0 hx336_0 hx337_0 hx75_0 hx76_0 hHeld ⊢
                           refine pk 0 153 (bz 16 1) HT_ ?_
                           refine pk 1 154 (bz 16 3) HT_ ?_
                           refine pk 2 155 (bz 16 7) HT_ ?_
                           refine pk 3 156 (bz 16 15) HT_ ?_
                           refine pk 4 157 (bz 16 31) HT_ ?_
                           refine pk 5 158 (bz 16 63) HT_ ?_
                           refine pk 6 159 (bz 16 127) HT_ ?_
                           refine pk 8 161 (bz 16 383) HT_ ?_
                           refine pk 9 162 (bz 16 895) HT_ ?_
                           refine pk 10 163 (bz 16 1919) HT_ ?_
                           refine tk 7 160 (bz 16 2047) HT_ HW_ hHeld ?_
                           refine tk 11 164 (bz 16 4095) HT_ HW_ hHeld ?_
                           refine pk 12 165 (bz 16 8191) HT_ ?_
                           refine last_ (i := 13) (N := none) (bz 16 16383) rfl rfl (one_of HT_.out (by kernel_rfl)) (by decide) (fun K hK => ?_)
                           refine skip_ (w1 := ?_) (by rfl) rfl ?_ ?_
                           rotate_left
                           ·go_simp
                            rfl
                           refine hK.out _ _ ?_
                           clear hK K
                           refine pk 14 166 (bz 16 32767) HT_ ?_
                           refine last_ (i := 15) (N := none) (bz 16 65535) rfl rfl (one_of HT_.out (by kernel_rfl)) (by decide) (fun K hK => ?_)
                           refine skip_ (w1 := ?_) (by rfl) rfl ?_ ?_
                           rotate_left
                           ·go_simp
                            rfl
                           refine hK.out _ _ ?_
                           clear hK K
                           refine done_ (done_of HT_.out (by kernel_rfl)) ?_
                           try go_wp2
                           go_ret2
                           exact ⟨by first|rfl|(simp [errW_none,errW_some] <;> rfl)|(simp [*,errW_none,errW_some] <;> rfl),(by first|exact (by (with_reducible repeat (first|apply Kd.R_alloc|apply Kd.R_drewN|apply Kd.R_drew));exact HQ80.out)|(simp only [hl0_10,hl0_3];exact (by (with_reducible repeat (first|apply Kd.R_alloc|apply Kd.R_drewN|apply Kd.R_drew));exact HQ80.out))),by repeat (first|(with_reducible first|exact HB.out|apply below_alloc|apply pw_below_drewN|apply below_drew1|refine below_set ?_ GB9.out|refine below_set ?_ GB9.out)|exact HB.out),by repeat (first|(with_reducible first|exact HK.out|apply Kept.alloc|apply Kept.drewN|apply Kept.drew|refine Kept.setCell ?_ HMgo9.out _|refine Kept.setCell ?_ HMgo9.out _)|exact HK.out)⟩
                          ·rw [if_neg c74] at H
                           have c74b0 : decide (x11_5 < x10_55) = false := decide_eq_false c74
                           clear c74
                           by_cases c81 : 0 ≤ x10_55
                           ·rw [if_pos c81] at H
                            have c81b0 : decide (0 ≤ x10_55) = true := decide_eq_true c81
                            clear c81
                            by_cases c82 : x10_55 < (x0_3.length : Int)
                            ·rw [if_pos c82] at H
                             have c82b0 : decide (x10_55 < (x0_3.length : Int)) = true := decide_eq_true c82
                             clear c82
                             obtain ⟨y342,hy342⟩ : ∃ y_ : List Int,y_ = (x0_3.set (x10_55 : Int).toNat (rd x0_3 x11_5)) := ⟨_,rfl⟩
                             replace H : (slices_partitionOrdered_uint64.l2 k5 (y342.set (x11_5 : Int).toNat (rd x0_3 x10_55)) a1 (wrap64 (x10_55 + 1)) (wrap64 (x11_5 - 1))) = some (r1,r2,r3) := by first|(rw [hy342];with_reducible exact H)|(have H2_ := (Option.bind_some _ _).symm.trans H;rw [hy342];with_reducible exact H2_)|(have H2_ := (Option.bind_some _ _).symm.trans H;with_reducible exact H2_)|with_reducible exact H|(rw [hy342];exact H)|exact H
                             have Ny342 := am hy342
                             clear hy342
                             obtain ⟨y343,hy343⟩ : ∃ y_ : List Int,y_ = (y342.set (x11_5 : Int).toNat (rd x0_3 x10_55)) := ⟨_,rfl⟩
                             replace H : (slices_partitionOrdered_uint64.l2 k5 y343 a1 (wrap64 (x10_55 + 1)) (wrap64 (x11_5 - 1))) = some (r1,r2,r3) := by first|(rw [hy343];with_reducible exact H)|(have H2_ := (Option.bind_some _ _).symm.trans H;rw [hy343];with_reducible exact H2_)|(have H2_ := (Option.bind_some _ _).symm.trans H;with_reducible exact H2_)|with_reducible exact H|(rw [hy343];exact H)|exact H
                             have Ny343 := am hy343
                             clear hy343
                             have H' := am H
                             clear H
                             try go_wp2
                             have n0_ := am (Kd.R_drew HO_0.out)
                             have n1_ := am (Kept.drew HK.out)
                             have n2_ := am (below_drew1 HB.out)
                             clear HO_0
                             clear HK
                             clear HB
                             have HO_0 := n0_
                             have HK := n1_
                             have HB := n2_
                             clear n0_ n1_ n2_
                             have p333 : 0 ≤ (x11_5 : Int) := od
                             have q333 : x11_5 < (x0_3.length : Int) := od
                             obtain ⟨ad333,e333,hx333_0⟩ := Kd.at_int (Kd.R_reads' HO_0.out).2.2 x11_5 p333 q333
                             obtain rfl : (⟨go9,0,none⟩ : Addr) = ad333 := (by injection e333)
                             (first|simp only [add_plain] at hx333_0|simp only [add_at] at hx333_0|simp only [Addr.add,Nat.zero_add] at hx333_0|skip)
                             replace p333 := eq_true p333
                             replace q333 := eq_true q333
                             have p334 : 0 ≤ (a1 : Int) := od
                             have q334 : a1 < (x0_3.length : Int) := od
                             obtain ⟨ad334,e334,hx334_0⟩ := Kd.at_int (Kd.R_reads' HO_0.out).2.2 a1 p334 q334
                             obtain rfl : (⟨go9,0,none⟩ : Addr) = ad334 := (by injection e334)
                             (first|simp only [add_plain] at hx334_0|simp only [add_at] at hx334_0|simp only [Addr.add,Nat.zero_add] at hx334_0|skip)
                             replace p334 := eq_true p334
                             replace q334 := eq_true q334
                             refine start_ (n := 15) (S := fun w' => w'.cell? ⟨go9,(x11_5).toNat,none⟩ = some (.int .u64 (rd x0_3 x11_5)) ∧ w'.cell? ⟨go9,(a1).toNat,none⟩ = some (.int .u64 (rd x0_3 a1))) (ds := []) (bz 15 0) (by kernel_rfl) rfl rfl ⟨hx333_0,hx334_0⟩ (fun hHeld => ?_);refine with_tabW slices_partitionOrdered_uint64.tab15 slices_partitionOrdered_uint64.bits15 (fun HT_ HW_ => ?_)
                             generalize wr.drew = w85 at HO_0 HK HB hx333_0 hx334_0 hHeld ⊢
                             refine pk 0 115 (bz 15 1) HT_ ?_
                             refine pk 1 116 (bz 15 3) HT_ ?_
                             refine pk 2 117 (bz 15 7) HT_ ?_
                             refine pk 3 118 (bz 15 15) HT_ ?_
                             refine pk 4 119 (bz 15 31) HT_ ?_
                             refine pk 5 120 (bz 15 63) HT_ ?_
                             refine pk 6 121 (bz 15 127) HT_ ?_
                             refine pk 8 123 (bz 15 383) HT_ ?_
                             refine pk 9 124 (bz 15 895) HT_ ?_
                             refine pk 10 125 (bz 15 1919) HT_ ?_
                             refine tk 7 122 (bz 15 2047) HT_ HW_ hHeld ?_
                             refine tk 11 126 (bz 15 4095) HT_ HW_ hHeld ?_
                             refine on 12 127 (bz 15 8191) HT_ (fun K hK => ?_)
                             refine goes_ Try.func111 (by kernel_rfl) rfl #[.int .u64 (rd x0_3 x11_5),.int .u64 (rd x0_3 a1)] (by rfl) rfl rfl (by (try simp only [List.map_toArray,List.map_cons,List.map_nil]);first|done|rfl|(simp only [List.length_drop,List.length_take];rfl)) ?_
                             with_reducible refine (cmp_Less_uint64.calls (rd x0_3 x11_5) (rd x0_3 a1) true _ A72.out).mono ?_
                             rintro e w' ⟨rfl,⟨nd,rfl⟩⟩
                             refine ⟨_,rfl,?_⟩
                             refine hK.out _ _ ⟨hHeld.1,hHeld.2⟩ (fun hHeld => ?_)
                             clear hK K
                             refine nm 127 ?_
                             refine pk 13 128 (bz 15 16383) HT_ ?_
                             refine pk 14 129 (bz 15 32767) HT_ ?_
                             refine done_ (done_of HT_.out (by kernel_rfl)) ?_
                             try go_wp2
                             (try (rw [drewN_self w85];generalize hq_ : World.drewN w85 _ = w85;have n0_ : Aside0 (Kd.R (Kd.int .u64) 22 w85 w0.heap.size (fun k_ => (P0_ k_ ∨ w.heap.size ≤ k_)) (.slice (some ⟨go9,0,none⟩) x0_3.length co13) x0_3) := ⟨by rw [← hq_];exact (rr HO_0)⟩;have n1_ : Aside0 (Kept w w85 (fun k_ => P0_ k_)) := ⟨by rw [← hq_];exact (by repeat (first|(with_reducible first|exact HK.out|apply Kept.alloc|apply Kept.drewN|apply Kept.drew)|exact HK.out))⟩;have n2_ : Aside0 (Below w0.heap.size w0 w85) := ⟨by rw [← hq_];exact (bb HB)⟩;clear HO_0 HK HB hq_;have HO_0 := n0_;have HK := n1_;have HB := n2_;clear n0_ n1_ n2_))
                             have n0_ := am (Kd.R_drew HO_0.out)
                             have n1_ := am (Kept.drew HK.out)
                             have n2_ := am (below_drew1 HB.out)
                             clear HO_0
                             clear HK
                             clear HB
                             have HO_0 := n0_
                             have HK := n1_
                             have HB := n2_
                             clear n0_ n1_ n2_
                             have p340 : 0 ≤ (x11_5 : Int) := od
                             have q340 : x11_5 < (x0_3.length : Int) := od
                             obtain ⟨ad340,e340,hx340_0⟩ := Kd.at_int (Kd.R_reads' HO_0.out).2.2 x11_5 p340 q340
                             obtain rfl : (⟨go9,0,none⟩ : Addr) = ad340 := (by injection e340)
                             (first|simp only [add_plain] at hx340_0|simp only [add_at] at hx340_0|simp only [Addr.add,Nat.zero_add] at hx340_0|skip)
                             replace p340 := eq_true p340
                             replace q340 := eq_true q340
                             have p341 : 0 ≤ (x10_55 : Int) := od
                             have q341 : x10_55 < (x0_3.length : Int) := od
                             obtain ⟨ad341,e341,hx341_0⟩ := Kd.at_int (Kd.R_reads' HO_0.out).2.2 x10_55 p341 q341
                             obtain rfl : (⟨go9,0,none⟩ : Addr) = ad341 := (by injection e341)
                             (first|simp only [add_plain] at hx341_0|simp only [add_at] at hx341_0|simp only [Addr.add,Nat.zero_add] at hx341_0|skip)
                             replace p341 := eq_true p341
                             replace q341 := eq_true q341
                             have p83 : 0 ≤ (x10_55 : Int) := od
                             have q83 : (x10_55 : Int) < ((x0_3.length : Int) : Int) := od
                             obtain ⟨hx83_0,hf83_0⟩ := Kd.R_celln 0 HO_0.out (x10_55 : Int) p83 q83
                             replace p83 := eq_true p83
                             replace q83 := eq_true q83
                             have HP87 := Kd.R_putn HO_0.out (x10_55 : Int) (rd x0_3 x11_5)
                             rw [← Ny342.out] at HP87
                             have HQ87 := am HP87
                             clear HP87
                             have p84 : 0 ≤ (x11_5 : Int) := od
                             have q84 : (x11_5 : Int) < ((x0_3.length : Int) : Int) := od
                             obtain ⟨hx84_0,hf84_0⟩ := Kd.R_celln 0 HQ87.out (x11_5 : Int) p84 q84
                             replace p84 := eq_true p84
                             replace q84 := eq_true q84
                             have HP88 := Kd.R_putn HQ87.out (x11_5 : Int) (rd x0_3 x10_55)
                             rw [← Ny343.out] at HP88
                             have HQ88 := am HP88
                             clear HP88
                             refine start_ (n := 16) (S := fun w' => w'.cell? ⟨go9,(x11_5).toNat,none⟩ = some (.int .u64 (rd x0_3 x11_5)) ∧ w'.cell? ⟨go9,(x10_55).toNat,none⟩ = some (.int .u64 (rd x0_3 x10_55))) (ds := [13,15]) (bz 16 0) (by kernel_rfl) rfl rfl ⟨hx340_0,hx341_0⟩ (fun hHeld => ?_);refine with_tabW slices_partitionOrdered_uint64.tab18 slices_partitionOrdered_uint64.bits18 (fun HT_ HW_ => ?_)
                             generalize w85.drew = w86 at HO_0 HK HB HQ87 HQ88 hf83_0 hf84_0 hx340_0 hx341_0 hx83_0 hx84_0 hHeld ⊢
                             refine pk 0 135 (bz 16 1) HT_ ?_
                             refine pk 1 136 (bz 16 3) HT_ ?_
                             refine pk 2 137 (bz 16 7) HT_ ?_
                             refine pk 3 138 (bz 16 15) HT_ ?_
                             refine pk 4 139 (bz 16 31) HT_ ?_
                             refine pk 5 140 (bz 16 63) HT_ ?_
                             refine pk 6 141 (bz 16 127) HT_ ?_
                             refine pk 8 143 (bz 16 383) HT_ ?_
                             refine pk 9 144 (bz 16 895) HT_ ?_
                             refine pk 10 145 (bz 16 1919) HT_ ?_
                             refine tk 7 142 (bz 16 2047) HT_ HW_ hHeld ?_
                             refine tk 11 146 (bz 16 4095) HT_ HW_ hHeld ?_
                             refine pk 12 147 (bz 16 8191) HT_ ?_
                             refine last_ (i := 13) (N := none) (bz 16 16383) rfl rfl (one_of HT_.out (by kernel_rfl)) (by decide) (fun K hK => ?_)
                             refine skip_ (w1 := ?_) (by rfl) rfl ?_ ?_
                             rotate_left
                             ·go_simp
                              rfl
                             refine hK.out _ _ ?_
                             clear hK K
                             refine pk 14 148 (bz 16 32767) HT_ ?_
                             refine last_ (i := 15) (N := none) (bz 16 65535) rfl rfl (one_of HT_.out (by kernel_rfl)) (by decide) (fun K hK => ?_)
                             refine skip_ (w1 := ?_) (by rfl) rfl ?_ ?_
                             rotate_left
                             ·go_simp
                              rfl
                             refine hK.out _ _ ?_
                             clear hK K
                             refine done_ (done_of HT_.out (by kernel_rfl)) ?_
                             try go_wp2
                             (try simp only [← hl0_3])
                             go_roundg k5
                             case measure => have := HJ10.out;have := HJ25.out;have := HK3.out;have := HJ55.out;have := HK5.out;omega
                             case rel => exact ⟨(y343),(wrap64 (x10_55 + 1)),(wrap64 (x11_5 - 1)),(by first|rfl|(simp;done)|(simp [*];done)),(by first|rfl|(simp;done)|(simp [*];done)),H',⟨by have := HJ10.out;have := HJ25.out;have := HK3.out;have := HJ55.out;have := HK5.out;omega⟩,⟨by (try simp only [hl0_10]);(try simp only [hl0_3]);(with_reducible repeat (first|apply Kd.R_alloc|apply Kd.R_drewN|apply Kd.R_drew));exact HQ88.out⟩,⟨by repeat (first|(with_reducible first|exact HK.out|apply Kept.alloc|apply Kept.drewN|apply Kept.drew|refine Kept.setCell ?_ HMgo9.out _|refine Kept.setCell ?_ HMgo9.out _)|exact HK.out)⟩,⟨by repeat (first|(with_reducible first|exact HB.out|apply below_alloc|apply pw_below_drewN|apply below_drew1|refine below_set ?_ GB9.out|refine below_set ?_ GB9.out)|exact HB.out)⟩⟩
                            ·rw [if_neg c82] at H
                             exact absurd H (by simp)
                           ·rw [if_neg c81] at H
                            exact absurd H (by simp)
                         ·replace c73 := Bool.eq_false_iff.mpr c73
                          subst c73
                          rw [if_neg (show ¬ (false = true) by decide)] at H
                          have H' := am H
                          clear H
                          try go_wp2
                          have n0_ := am (Kd.R_drew HO_0.out)
                          have n1_ := am (Kept.drew HK.out)
                          have n2_ := am (below_drew1 HB.out)
                          clear HO_0
                          clear HK
                          clear HB
                          have HO_0 := n0_
                          have HK := n1_
                          have HB := n2_
                          clear n0_ n1_ n2_
                          have p333 : 0 ≤ (x11_5 : Int) := od
                          have q333 : x11_5 < (x0_3.length : Int) := od
                          obtain ⟨ad333,e333,hx333_0⟩ := Kd.at_int (Kd.R_reads' HO_0.out).2.2 x11_5 p333 q333
                          obtain rfl : (⟨go9,0,none⟩ : Addr) = ad333 := (by injection e333)
                          (first|simp only [add_plain] at hx333_0|simp only [add_at] at hx333_0|simp only [Addr.add,Nat.zero_add] at hx333_0|skip)
                          replace p333 := eq_true p333
                          replace q333 := eq_true q333
                          have p334 : 0 ≤ (a1 : Int) := od
                          have q334 : a1 < (x0_3.length : Int) := od
                          obtain ⟨ad334,e334,hx334_0⟩ := Kd.at_int (Kd.R_reads' HO_0.out).2.2 a1 p334 q334
                          obtain rfl : (⟨go9,0,none⟩ : Addr) = ad334 := (by injection e334)
                          (first|simp only [add_plain] at hx334_0|simp only [add_at] at hx334_0|simp only [Addr.add,Nat.zero_add] at hx334_0|skip)
                          replace p334 := eq_true p334
                          replace q334 := eq_true q334
                          refine start_ (n := 15) (S := fun w' => w'.cell? ⟨go9,(x11_5).toNat,none⟩ = some (.int .u64 (rd x0_3 x11_5)) ∧ w'.cell? ⟨go9,(a1).toNat,none⟩ = some (.int .u64 (rd x0_3 a1))) (ds := []) (bz 15 0) (by kernel_rfl) rfl rfl ⟨hx333_0,hx334_0⟩ (fun hHeld => ?_);refine with_tabW slices_partitionOrdered_uint64.tab15 slices_partitionOrdered_uint64.bits15 (fun HT_ HW_ => ?_)
                          generalize wr.drew = w89 at HO_0 HK HB hx333_0 hx334_0 hHeld ⊢
                          refine pk 0 115 (bz 15 1) HT_ ?_
                          refine pk 1 116 (bz 15 3) HT_ ?_
                          refine pk 2 117 (bz 15 7) HT_ ?_
                          refine pk 3 118 (bz 15 15) HT_ ?_
                          refine pk 4 119 (bz 15 31) HT_ ?_
                          refine pk 5 120 (bz 15 63) HT_ ?_
                          refine pk 6 121 (bz 15 127) HT_ ?_
                          refine pk 8 123 (bz 15 383) HT_ ?_
                          refine pk 9 124 (bz 15 895) HT_ ?_
                          refine pk 10 125 (bz 15 1919) HT_ ?_
                          refine tk 7 122 (bz 15 2047) HT_ HW_ hHeld ?_
                          refine tk 11 126 (bz 15 4095) HT_ HW_ hHeld ?_
                          refine on 12 127 (bz 15 8191) HT_ (fun K hK => ?_)
                          refine goes_ Try.func111 (by kernel_rfl) rfl #[.int .u64 (rd x0_3 x11_5),.int .u64 (rd x0_3 a1)] (by rfl) rfl rfl (by (try simp only [List.map_toArray,List.map_cons,List.map_nil]);first|done|rfl|(simp only [List.length_drop,List.length_take];rfl)) ?_
                          with_reducible refine (cmp_Less_uint64.calls (rd x0_3 x11_5) (rd x0_3 a1) false _ A72.out).mono ?_
                          rintro e w' ⟨rfl,⟨nd,rfl⟩⟩
                          refine ⟨_,rfl,?_⟩
                          refine hK.out _ _ ⟨hHeld.1,hHeld.2⟩ (fun hHeld => ?_)
                          clear hK K
                          refine nm 127 ?_
                          refine pk 13 128 (bz 15 16383) HT_ ?_
                          refine pk 14 129 (bz 15 32767) HT_ ?_
                          refine done_ (done_of HT_.out (by kernel_rfl)) ?_
                          try go_wp2
                          go_roundg k5
                          case measure => have := HJ10.out;have := HJ25.out;have := HK3.out;have := HJ55.out;have := HK5.out;omega
                          case rel => exact ⟨(wrap64 (x11_5 - 1)),(by first|rfl|(simp;done)|(simp [*];done)),H',⟨by have := HJ10.out;have := HJ25.out;have := HK3.out;have := HJ55.out;have := HK5.out;omega⟩,⟨by (try simp only [hl0_10]);(try simp only [hl0_3]);(with_reducible repeat (first|apply Kd.R_alloc|apply Kd.R_drewN|apply Kd.R_drew));exact HO_0.out⟩,⟨by repeat (first|(with_reducible first|exact HK.out|apply Kept.alloc|apply Kept.drewN|apply Kept.drew)|exact HK.out)⟩,⟨bb HB⟩⟩
                        ·rw [if_neg c71] at H
                         exact absurd H (by simp)
                       ·rw [if_neg c70] at H
                        exact absurd H (by simp)
                      ·rw [if_neg c69] at H
                       exact absurd H (by simp)
                     ·rw [if_neg c68] at H
                      exact absurd H (by simp)
                    ·rw [if_neg c67] at H
                     have c67b0 : decide (x10_55 ≤ x11_5) = false := decide_eq_false c67
                     clear c67
                     by_cases c90 : x10_55 > x11_5
                     ·rw [if_pos c90] at H
                      have c90b0 : decide (x11_5 < x10_55) = true := decide_eq_true c90
                      clear c90
                      by_cases c91 : 0 ≤ a1
                      ·rw [if_pos c91] at H
                       have c91b0 : decide (0 ≤ a1) = true := decide_eq_true c91
                       clear c91
                       by_cases c92 : a1 < (x0_3.length : Int)
                       ·rw [if_pos c92] at H
                        have c92b0 : decide (a1 < (x0_3.length : Int)) = true := decide_eq_true c92
                        clear c92
                        by_cases c93 : 0 ≤ x11_5
                        ·rw [if_pos c93] at H
                         have c93b0 : decide (0 ≤ x11_5) = true := decide_eq_true c93
                         clear c93
                         by_cases c94 : x11_5 < (x0_3.length : Int)
                         ·rw [if_pos c94] at H
                          have c94b0 : decide (x11_5 < (x0_3.length : Int)) = true := decide_eq_true c94
                          clear c94
                          obtain ⟨y346,hy346⟩ : ∃ y_ : List Int,y_ = (x0_3.set (x11_5 : Int).toNat (rd x0_3 a1)) := ⟨_,rfl⟩
                          replace H : (some (x11_5,false,(y346.set (a1 : Int).toNat (rd x0_3 x11_5)))) = some (r1,r2,r3) := by first|(rw [hy346];with_reducible exact H)|(have H2_ := (Option.bind_some _ _).symm.trans H;rw [hy346];with_reducible exact H2_)|(have H2_ := (Option.bind_some _ _).symm.trans H;with_reducible exact H2_)|with_reducible exact H|(rw [hy346];exact H)|exact H
                          have Ny346 := am hy346
                          clear hy346
                          obtain ⟨y347,hy347⟩ : ∃ y_ : List Int,y_ = (y346.set (a1 : Int).toNat (rd x0_3 x11_5)) := ⟨_,rfl⟩
                          replace H : (some (x11_5,false,y347)) = some (r1,r2,r3) := by first|(rw [hy347];with_reducible exact H)|(have H2_ := (Option.bind_some _ _).symm.trans H;rw [hy347];with_reducible exact H2_)|(have H2_ := (Option.bind_some _ _).symm.trans H;with_reducible exact H2_)|with_reducible exact H|(rw [hy347];exact H)|exact H
                          have Ny347 := am hy347
                          clear hy347
                          simp only [Option.some.injEq,Prod.mk.injEq] at H
                          obtain ⟨rfl,rfl,rfl⟩ := H
                          try go_wp2
                          have n0_ := am (Kd.R_drew HO_0.out)
                          have n1_ := am (Kept.drew HK.out)
                          have n2_ := am (below_drew1 HB.out)
                          clear HO_0
                          clear HK
                          clear HB
                          have HO_0 := n0_
                          have HK := n1_
                          have HB := n2_
                          clear n0_ n1_ n2_
                          refine start_ (n := 15) (S := fun w' => True) (ds := []) (bz 15 0) (by kernel_rfl) rfl rfl trivial (fun hHeld => ?_);refine with_tabW slices_partitionOrdered_uint64.tab15 slices_partitionOrdered_uint64.bits15 (fun HT_ HW_ => ?_)
                          generalize wr.drew = w97 at HO_0 HK HB hHeld ⊢
                          refine pk 0 115 (bz 15 1) HT_ ?_
                          refine pk 1 116 (bz 15 3) HT_ ?_
                          refine pk 2 117 (bz 15 7) HT_ ?_
                          refine pk 3 118 (bz 15 15) HT_ ?_
                          refine pz 4 119 (bz 15 31) HT_ ?_
                          refine pz 5 120 (bz 15 63) HT_ ?_
                          refine pz 6 121 (bz 15 127) HT_ ?_
                          refine pz 7 122 (bz 15 255) HT_ ?_
                          refine pz 8 123 (bz 15 511) HT_ ?_
                          refine pz 9 124 (bz 15 1023) HT_ ?_
                          refine pz 10 125 (bz 15 2047) HT_ ?_
                          refine pz 11 126 (bz 15 4095) HT_ ?_
                          refine pz 12 127 (bz 15 8191) HT_ ?_
                          refine pz 13 128 (bz 15 16383) HT_ ?_
                          refine pk 14 129 (bz 15 32767) HT_ ?_
                          refine done_ (done_of HT_.out (by kernel_rfl)) ?_
                          try go_wp2
                          have n0_ := am (Kd.R_drew HO_0.out)
                          have n1_ := am (Kept.drew HK.out)
                          have n2_ := am (below_drew1 HB.out)
                          clear HO_0
                          clear HK
                          clear HB
                          have HO_0 := n0_
                          have HK := n1_
                          have HB := n2_
                          clear n0_ n1_ n2_
                          have p344 : 0 ≤ (a1 : Int) := od
                          have q344 : a1 < (x0_3.length : Int) := od
                          obtain ⟨ad344,e344,hx344_0⟩ := Kd.at_int (Kd.R_reads' HO_0.out).2.2 a1 p344 q344
                          obtain rfl : (⟨go9,0,none⟩ : Addr) = ad344 := (by injection e344)
                          (first|simp only [add_plain] at hx344_0|simp only [add_at] at hx344_0|simp only [Addr.add,Nat.zero_add] at hx344_0|skip)
                          replace p344 := eq_true p344
                          replace q344 := eq_true q344
                          have p345 : 0 ≤ (x11_5 : Int) := od
                          have q345 : x11_5 < (x0_3.length : Int) := od
                          obtain ⟨ad345,e345,hx345_0⟩ := Kd.at_int (Kd.R_reads' HO_0.out).2.2 x11_5 p345 q345
                          obtain rfl : (⟨go9,0,none⟩ : Addr) = ad345 := (by injection e345)
                          (first|simp only [add_plain] at hx345_0|simp only [add_at] at hx345_0|simp only [Addr.add,Nat.zero_add] at hx345_0|skip)
                          replace p345 := eq_true p345
                          replace q345 := eq_true q345
                          have p95 : 0 ≤ (x11_5 : Int) := od
                          have q95 : (x11_5 : Int) < ((x0_3.length : Int) : Int) := od
                          obtain ⟨hx95_0,hf95_0⟩ := Kd.R_celln 0 HO_0.out (x11_5 : Int) p95 q95
                          replace p95 := eq_true p95
                          replace q95 := eq_true q95
                          have HP99 := Kd.R_putn HO_0.out (x11_5 : Int) (rd x0_3 a1)
                          rw [← Ny346.out] at HP99
                          have HQ99 := am HP99
                          clear HP99
                          have p96 : 0 ≤ (a1 : Int) := od
                          have q96 : (a1 : Int) < ((x0_3.length : Int) : Int) := od
                          obtain ⟨hx96_0,hf96_0⟩ := Kd.R_celln 0 HQ99.out (a1 : Int) p96 q96
                          replace p96 := eq_true p96
                          replace q96 := eq_true q96
                          have HP100 := Kd.R_putn HQ99.out (a1 : Int) (rd x0_3 x11_5)
                          rw [← Ny347.out] at HP100
                          have HQ100 := am HP100
                          clear HP100
                          refine start_ (n := 16) (S := fun w' => w'.cell? ⟨go9,(a1).toNat,none⟩ = some (.int .u64 (rd x0_3 a1)) ∧ w'.cell? ⟨go9,(x11_5).toNat,none⟩ = some (.int .u64 (rd x0_3 x11_5))) (ds := [13,15]) (bz 16 0) (by kernel_rfl) rfl rfl ⟨hx344_0,hx345_0⟩ (fun hHeld => ?_);refine with_tabW slices_partitionOrdered_uint64.tab21 slices_partitionOrdered_uint64.bits21 (fun HT_ HW_ => ?_)
                          generalize w97.drew = w98 at HO_0 HK HB HQ100 HQ99 hf95_0 hf96_0 hx344_0 hx345_0 hx95_0 hx96_0 hHeld ⊢
                          refine pk 0 153 (bz 16 1) HT_ ?_
                          refine pk 1 154 (bz 16 3) HT_ ?_
                          refine pk 2 155 (bz 16 7) HT_ ?_
                          refine pk 3 156 (bz 16 15) HT_ ?_
                          refine pk 4 157 (bz 16 31) HT_ ?_
                          refine pk 5 158 (bz 16 63) HT_ ?_
                          refine pk 6 159 (bz 16 127) HT_ ?_
                          refine pk 8 161 (bz 16 383) HT_ ?_
                          refine pk 9 162 (bz 16 895) HT_ ?_
                          refine pk 10 163 (bz 16 1919) HT_ ?_
                          refine tk 7 160 (bz 16 2047) HT_ HW_ hHeld ?_
                          refine tk 11 164 (bz 16 4095) HT_ HW_ hHeld ?_
                          refine pk 12 165 (bz 16 8191) HT_ ?_
                          refine last_ (i := 13) (N := none) (bz 16 16383) rfl rfl (one_of HT_.out (by kernel_rfl)) (by decide) (fun K hK => ?_)
                          refine skip_ (w1 := ?_) (by rfl) rfl ?_ ?_
                          rotate_left
                          ·go_simp
                           rfl
                          refine hK.out _ _ ?_
                          clear hK K
                          refine pk 14 166 (bz 16 32767) HT_ ?_
                          refine last_ (i := 15) (N := none) (bz 16 65535) rfl rfl (one_of HT_.out (by kernel_rfl)) (by decide) (fun K hK => ?_)
                          refine skip_ (w1 := ?_) (by rfl) rfl ?_ ?_
                          rotate_left
                          ·go_simp
                           rfl
                          refine hK.out _ _ ?_
                          clear hK K
                          refine done_ (done_of HT_.out (by kernel_rfl)) ?_
                          try go_wp2
                          go_ret2
                          exact ⟨by first|rfl|(simp [errW_none,errW_some] <;> rfl)|(simp [*,errW_none,errW_some] <;> rfl),(by first|exact (by (with_reducible repeat (first|apply Kd.R_alloc|apply Kd.R_drewN|apply Kd.R_drew));exact HQ100.out)|(simp only [hl0_10,hl0_3];exact (by (with_reducible repeat (first|apply Kd.R_alloc|apply Kd.R_drewN|apply Kd.R_drew));exact HQ100.out))),by repeat (first|(with_reducible first|exact HB.out|apply below_alloc|apply pw_below_drewN|apply below_drew1|refine below_set ?_ GB9.out|refine below_set ?_ GB9.out)|exact HB.out),by repeat (first|(with_reducible first|exact HK.out|apply Kept.alloc|apply Kept.drewN|apply Kept.drew|refine Kept.setCell ?_ HMgo9.out _|refine Kept.setCell ?_ HMgo9.out _)|exact HK.out)⟩
                         ·rw [if_neg c94] at H
                          exact absurd H (by simp)
                        ·rw [if_neg c93] at H
                         exact absurd H (by simp)
                       ·rw [if_neg c92] at H
                        exact absurd H (by simp)
                      ·rw [if_neg c91] at H
                       exact absurd H (by simp)
                     ·rw [if_neg c90] at H
                      have c90b0 : decide (x11_5 < x10_55) = false := decide_eq_false c90
                      clear c90
                      by_cases c101 : 0 ≤ x11_5
                      ·rw [if_pos c101] at H
                       have c101b0 : decide (0 ≤ x11_5) = true := decide_eq_true c101
                       clear c101
                       by_cases c102 : x11_5 < (x0_3.length : Int)
                       ·rw [if_pos c102] at H
                        have c102b0 : decide (x11_5 < (x0_3.length : Int)) = true := decide_eq_true c102
                        clear c102
                        by_cases c103 : 0 ≤ x10_55
                        ·rw [if_pos c103] at H
                         have c103b0 : decide (0 ≤ x10_55) = true := decide_eq_true c103
                         clear c103
                         by_cases c104 : x10_55 < (x0_3.length : Int)
                         ·rw [if_pos c104] at H
                          have c104b0 : decide (x10_55 < (x0_3.length : Int)) = true := decide_eq_true c104
                          clear c104
                          obtain ⟨y350,hy350⟩ : ∃ y_ : List Int,y_ = (x0_3.set (x10_55 : Int).toNat (rd x0_3 x11_5)) := ⟨_,rfl⟩
                          replace H : (slices_partitionOrdered_uint64.l2 k5 (y350.set (x11_5 : Int).toNat (rd x0_3 x10_55)) a1 (wrap64 (x10_55 + 1)) (wrap64 (x11_5 - 1))) = some (r1,r2,r3) := by first|(rw [hy350];with_reducible exact H)|(have H2_ := (Option.bind_some _ _).symm.trans H;rw [hy350];with_reducible exact H2_)|(have H2_ := (Option.bind_some _ _).symm.trans H;with_reducible exact H2_)|with_reducible exact H|(rw [hy350];exact H)|exact H
                          have Ny350 := am hy350
                          clear hy350
                          obtain ⟨y351,hy351⟩ : ∃ y_ : List Int,y_ = (y350.set (x11_5 : Int).toNat (rd x0_3 x10_55)) := ⟨_,rfl⟩
                          replace H : (slices_partitionOrdered_uint64.l2 k5 y351 a1 (wrap64 (x10_55 + 1)) (wrap64 (x11_5 - 1))) = some (r1,r2,r3) := by first|(rw [hy351];with_reducible exact H)|(have H2_ := (Option.bind_some _ _).symm.trans H;rw [hy351];with_reducible exact H2_)|(have H2_ := (Option.bind_some _ _).symm.trans H;with_reducible exact H2_)|with_reducible exact H|(rw [hy351];exact H)|exact H
                          have Ny351 := am hy351
                          clear hy351
                          have H' := am H
                          clear H
                          try go_wp2
                          have n0_ := am (Kd.R_drew HO_0.out)
                          have n1_ := am (Kept.drew HK.out)
                          have n2_ := am (below_drew1 HB.out)
                          clear HO_0
                          clear HK
                          clear HB
                          have HO_0 := n0_
                          have HK := n1_
                          have HB := n2_
                          clear n0_ n1_ n2_
                          refine start_ (n := 15) (S := fun w' => True) (ds := []) (bz 15 0) (by kernel_rfl) rfl rfl trivial (fun hHeld => ?_);refine with_tabW slices_partitionOrdered_uint64.tab15 slices_partitionOrdered_uint64.bits15 (fun HT_ HW_ => ?_)
                          generalize wr.drew = w107 at HO_0 HK HB hHeld ⊢
                          refine pk 0 115 (bz 15 1) HT_ ?_
                          refine pk 1 116 (bz 15 3) HT_ ?_
                          refine pk 2 117 (bz 15 7) HT_ ?_
                          refine pk 3 118 (bz 15 15) HT_ ?_
                          refine pz 4 119 (bz 15 31) HT_ ?_
                          refine pz 5 120 (bz 15 63) HT_ ?_
                          refine pz 6 121 (bz 15 127) HT_ ?_
                          refine pz 7 122 (bz 15 255) HT_ ?_
                          refine pz 8 123 (bz 15 511) HT_ ?_
                          refine pz 9 124 (bz 15 1023) HT_ ?_
                          refine pz 10 125 (bz 15 2047) HT_ ?_
                          refine pz 11 126 (bz 15 4095) HT_ ?_
                          refine pz 12 127 (bz 15 8191) HT_ ?_
                          refine pz 13 128 (bz 15 16383) HT_ ?_
                          refine pk 14 129 (bz 15 32767) HT_ ?_
                          refine done_ (done_of HT_.out (by kernel_rfl)) ?_
                          try go_wp2
                          have n0_ := am (Kd.R_drew HO_0.out)
                          have n1_ := am (Kept.drew HK.out)
                          have n2_ := am (below_drew1 HB.out)
                          clear HO_0
                          clear HK
                          clear HB
                          have HO_0 := n0_
                          have HK := n1_
                          have HB := n2_
                          clear n0_ n1_ n2_
                          have p348 : 0 ≤ (x11_5 : Int) := od
                          have q348 : x11_5 < (x0_3.length : Int) := od
                          obtain ⟨ad348,e348,hx348_0⟩ := Kd.at_int (Kd.R_reads' HO_0.out).2.2 x11_5 p348 q348
                          obtain rfl : (⟨go9,0,none⟩ : Addr) = ad348 := (by injection e348)
                          (first|simp only [add_plain] at hx348_0|simp only [add_at] at hx348_0|simp only [Addr.add,Nat.zero_add] at hx348_0|skip)
                          replace p348 := eq_true p348
                          replace q348 := eq_true q348
                          have p349 : 0 ≤ (x10_55 : Int) := od
                          have q349 : x10_55 < (x0_3.length : Int) := od
                          obtain ⟨ad349,e349,hx349_0⟩ := Kd.at_int (Kd.R_reads' HO_0.out).2.2 x10_55 p349 q349
                          obtain rfl : (⟨go9,0,none⟩ : Addr) = ad349 := (by injection e349)
                          (first|simp only [add_plain] at hx349_0|simp only [add_at] at hx349_0|simp only [Addr.add,Nat.zero_add] at hx349_0|skip)
                          replace p349 := eq_true p349
                          replace q349 := eq_true q349
                          have p105 : 0 ≤ (x10_55 : Int) := od
                          have q105 : (x10_55 : Int) < ((x0_3.length : Int) : Int) := od
                          obtain ⟨hx105_0,hf105_0⟩ := Kd.R_celln 0 HO_0.out (x10_55 : Int) p105 q105
                          replace p105 := eq_true p105
                          replace q105 := eq_true q105
                          have HP109 := Kd.R_putn HO_0.out (x10_55 : Int) (rd x0_3 x11_5)
                          rw [← Ny350.out] at HP109
                          have HQ109 := am HP109
                          clear HP109
                          have p106 : 0 ≤ (x11_5 : Int) := od
                          have q106 : (x11_5 : Int) < ((x0_3.length : Int) : Int) := od
                          obtain ⟨hx106_0,hf106_0⟩ := Kd.R_celln 0 HQ109.out (x11_5 : Int) p106 q106
                          replace p106 := eq_true p106
                          replace q106 := eq_true q106
                          have HP110 := Kd.R_putn HQ109.out (x11_5 : Int) (rd x0_3 x10_55)
                          rw [← Ny351.out] at HP110
                          have HQ110 := am HP110
                          clear HP110
                          refine start_ (n := 16) (S := fun w' => w'.cell? ⟨go9,(x11_5).toNat,none⟩ = some (.int .u64 (rd x0_3 x11_5)) ∧ w'.cell? ⟨go9,(x10_55).toNat,none⟩ = some (.int .u64 (rd x0_3 x10_55))) (ds := [13,15]) (bz 16 0) (by kernel_rfl) rfl rfl ⟨hx348_0,hx349_0⟩ (fun hHeld => ?_);refine with_tabW slices_partitionOrdered_uint64.tab18 slices_partitionOrdered_uint64.bits18 (fun HT_ HW_ => ?_)
                          generalize w107.drew = w108 at HO_0 HK HB HQ109 HQ110 hf105_0 hf106_0 hx105_0 hx106_0 hx348_0 hx349_0 hHeld ⊢
                          refine pk 0 135 (bz 16 1) HT_ ?_
                          refine pk 1 136 (bz 16 3) HT_ ?_
                          refine pk 2 137 (bz 16 7) HT_ ?_
                          refine pk 3 138 (bz 16 15) HT_ ?_
                          refine pk 4 139 (bz 16 31) HT_ ?_
                          refine pk 5 140 (bz 16 63) HT_ ?_
                          refine pk 6 141 (bz 16 127) HT_ ?_
                          refine pk 8 143 (bz 16 383) HT_ ?_
                          refine pk 9 144 (bz 16 895) HT_ ?_
                          refine pk 10 145 (bz 16 1919) HT_ ?_
                          refine tk 7 142 (bz 16 2047) HT_ HW_ hHeld ?_
                          refine tk 11 146 (bz 16 4095) HT_ HW_ hHeld ?_
                          refine pk 12 147 (bz 16 8191) HT_ ?_
                          refine last_ (i := 13) (N := none) (bz 16 16383) rfl rfl (one_of HT_.out (by kernel_rfl)) (by decide) (fun K hK => ?_)
                          refine skip_ (w1 := ?_) (by rfl) rfl ?_ ?_
                          rotate_left
                          ·go_simp
                           rfl
                          refine hK.out _ _ ?_
                          clear hK K
                          refine pk 14 148 (bz 16 32767) HT_ ?_
                          refine last_ (i := 15) (N := none) (bz 16 65535) rfl rfl (one_of HT_.out (by kernel_rfl)) (by decide) (fun K hK => ?_)
                          refine skip_ (w1 := ?_) (by rfl) rfl ?_ ?_
                          rotate_left
                          ·go_simp
                           rfl
                          refine hK.out _ _ ?_
                          clear hK K
                          refine done_ (done_of HT_.out (by kernel_rfl)) ?_
                          try go_wp2
                          (try simp only [← hl0_3])
                          go_roundg k5
                          case measure => have := HJ10.out;have := HJ25.out;have := HK3.out;have := HJ55.out;have := HK5.out;omega
                          case rel => exact ⟨(y351),(wrap64 (x10_55 + 1)),(wrap64 (x11_5 - 1)),(by first|rfl|(simp;done)|(simp [*];done)),(by first|rfl|(simp;done)|(simp [*];done)),H',⟨by have := HJ10.out;have := HJ25.out;have := HK3.out;have := HJ55.out;have := HK5.out;omega⟩,⟨by (try simp only [hl0_10]);(try simp only [hl0_3]);(with_reducible repeat (first|apply Kd.R_alloc|apply Kd.R_drewN|apply Kd.R_drew));exact HQ110.out⟩,⟨by repeat (first|(with_reducible first|exact HK.out|apply Kept.alloc|apply Kept.drewN|apply Kept.drew|refine Kept.setCell ?_ HMgo9.out _|refine Kept.setCell ?_ HMgo9.out _)|exact HK.out)⟩,⟨by repeat (first|(with_reducible first|exact HB.out|apply below_alloc|apply pw_below_drewN|apply below_drew1|refine below_set ?_ GB9.out|refine below_set ?_ GB9.out)|exact HB.out)⟩⟩
                         ·rw [if_neg c104] at H
                          exact absurd H (by simp)
                        ·rw [if_neg c103] at H
                         exact absurd H (by simp)
                       ·rw [if_neg c102] at H
                        exact absurd H (by simp)
                      ·rw [if_neg c101] at H
                       exact absurd H (by simp)
             ·rw [if_neg c50] at H
              exact absurd H (by simp)
            ·rw [if_neg c49] at H
             exact absurd H (by simp)
           ·rw [if_neg c48] at H
            exact absurd H (by simp)
          ·rw [if_neg c47] at H
           exact absurd H (by simp)
    ·rw [if_neg c8] at H
     exact absurd H (by simp)
   ·rw [if_neg c7] at H
    exact absurd H (by simp)
  ·rw [if_neg c6] at H
   exact absurd H (by simp)
 ·rw [if_neg c5] at H
  exact absurd H (by simp)
end Go.Proofs.Ytmdoaijkaaaglaa.Pr
end
