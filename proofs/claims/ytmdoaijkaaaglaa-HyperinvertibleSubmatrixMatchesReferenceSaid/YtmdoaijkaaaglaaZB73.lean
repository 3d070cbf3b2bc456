/- Part 3 of the proof's texts, joined in build order. -/
import Derived.Test.YtmdoaijkaaaglaaZB71
set_option linter.unusedVariables false
set_option linter.unusedSimpArgs false
section
namespace Go.Proofs.Ytmdoaijkaaaglaa.Pr
open Go.RowKit Go.Proofs.YtmdoaijkaaaglaaW.PrintWords Go.Proofs.YtmdoaijkaaaglaaW.PrintLast Go.Proofs.YtmdoaijkaaaglaaW.PrintMore
attribute [local go_sem] max2_int min2_int max_two min_two max_three min_three max_four min_four
open Go.Proofs.Ytmdoaijkaaaglaa.Hw
mutual
def slices_partitionEqualOrdered_uint64.l0 : Nat → List Int → Int → Int → Int → Option (Int × List Int)
 | 0,_,_,_,_ => none
 | k + 1,x0,x1,x9,x10 => slices_partitionEqualOrdered_uint64.l1 k x0 x1 x9 x10
def slices_partitionEqualOrdered_uint64.j2 : Nat → List Int → Int → Int → Int → Option (Int × List Int)
 | 0,_,_,_,_ => none
 | k + 1,x0,x1,x9,x10 => slices_partitionEqualOrdered_uint64.l2 k x0 x1 x9 x10
def slices_partitionEqualOrdered_uint64.l2 : Nat → List Int → Int → Int → Int → Option (Int × List Int)
 | 0,_,_,_,_ => none
 | k + 1,x0,x1,x9,x10 => if x9 ≤ x10 then (if 0 ≤ x1 then (if x1 < (x0.length : Int) then (if 0 ≤ x10 then (if x10 < (x0.length : Int) then ((cmp_Less_uint64.f (rd x0 x1) (rd x0 x10)).bind fun t303 => (if t303 = true then (slices_partitionEqualOrdered_uint64.l2 k x0 x1 x9 (wrap64 (x10 - 1))) else (if x9 > x10 then (some (x9,x0)) else (if 0 ≤ x9 then (if x9 < (x0.length : Int) then (slices_partitionEqualOrdered_uint64.l0 k ((x0.set (x9 : Int).toNat (rd x0 x10)).set (x10 : Int).toNat (rd x0 x9)) x1 (wrap64 (x9 + 1)) (wrap64 (x10 - 1))) else (none)) else (none))))) else (none)) else (none)) else (none)) else (none)) else (if x9 > x10 then (some (x9,x0)) else (if 0 ≤ x10 then (if x10 < (x0.length : Int) then (if 0 ≤ x9 then (if x9 < (x0.length : Int) then (slices_partitionEqualOrdered_uint64.l0 k ((x0.set (x9 : Int).toNat (rd x0 x10)).set (x10 : Int).toNat (rd x0 x9)) x1 (wrap64 (x9 + 1)) (wrap64 (x10 - 1))) else (none)) else (none)) else (none)) else (none)))
def slices_partitionEqualOrdered_uint64.l1 : Nat → List Int → Int → Int → Int → Option (Int × List Int)
 | 0,_,_,_,_ => none
 | k + 1,x0,x1,x9,x10 => if x9 ≤ x10 then (if 0 ≤ x1 then (if x1 < (x0.length : Int) then (if 0 ≤ x9 then (if x9 < (x0.length : Int) then ((cmp_Less_uint64.f (rd x0 x1) (rd x0 x9)).bind fun t300 => (if t300 = true then (slices_partitionEqualOrdered_uint64.j2 k x0 x1 x9 x10) else (slices_partitionEqualOrdered_uint64.l1 k x0 x1 (wrap64 (x9 + 1)) x10))) else (none)) else (none)) else (none)) else (none)) else (slices_partitionEqualOrdered_uint64.j2 k x0 x1 x9 x10)
end
def slices_partitionEqualOrdered_uint64.f (k : Nat) (l0 : List Int) (a1 : Int) (a2 : Int) (a3 : Int) : Option (Int × List Int) := if 0 ≤ a3 then (if a3 < (l0.length : Int) then (if 0 ≤ a1 then (if a1 < (l0.length : Int) then (slices_partitionEqualOrdered_uint64.l0 k ((l0.set (a1 : Int).toNat (rd l0 a3)).set (a3 : Int).toNat (rd l0 a1)) a1 (wrap64 (a1 + 1)) (wrap64 (a2 - 1))) else (none)) else (none)) else (none)) else (none)
def slices_partitionEqualOrdered_uint64.T1 : Bool × List (List Nat × List Nat) := (true,[([],[]),([],[]),([],[]),([],[]),([],[]),([],[]),([4,5],[4,5]),([6],[6]),([],[]),([],[]),([8,9],[8,9]),([10],[10]),([0,1,0,1,4,5,6,7,11],[0,1]),([12,7,0,1,4,5,6,7,11],[7,12]),([2,3,0,1,2,3,4,5,6,7,8,9,10,11,12,13],[2,3]),([14,11,13,0,1,2,3,4,5,6,7,8,9,10,11,12,13],[11,14])])
def slices_partitionEqualOrdered_uint64.B1 : List Nat := [0,0,0,0,0,0,48,112,0,0,768,1792,4083,8179,16383,32767]
theorem slices_partitionEqualOrdered_uint64.tab1 : rtab .any (opsOf Try.f112 1) = slices_partitionEqualOrdered_uint64.T1 := by kernel_rfl
theorem slices_partitionEqualOrdered_uint64.bits1 : waitsOk slices_partitionEqualOrdered_uint64.T1.2 slices_partitionEqualOrdered_uint64.B1 = true := by kernel_rfl
def slices_partitionEqualOrdered_uint64.T3 : Bool × List (List Nat × List Nat) := (true,[([],[]),([],[]),([0,1],[0,1]),([2],[2]),([3],[3]),([3],[3]),([4,5,3],[3,4,5]),([6,3],[3,6]),([3],[3]),([3],[3]),([8,9,3],[3,8,9]),([10,3],[3,10]),([7,11,3,3],[3,7,11]),([12,3],[3,12]),([3,13],[3,13])])
def slices_partitionEqualOrdered_uint64.B3 : List Nat := [0,0,3,7,15,15,63,127,15,15,783,1807,4095,8191,16383]
theorem slices_partitionEqualOrdered_uint64.tab3 : rtab .any (opsOf Try.f112 3) = slices_partitionEqualOrdered_uint64.T3 := by kernel_rfl
theorem slices_partitionEqualOrdered_uint64.bits3 : waitsOk slices_partitionEqualOrdered_uint64.T3.2 slices_partitionEqualOrdered_uint64.B3 = true := by kernel_rfl
def slices_partitionEqualOrdered_uint64.T5 : Bool × List (List Nat × List Nat) := (true,[([],[]),([],[]),([0,1],[0,1]),([2],[2]),([3],[3]),([3],[3]),([4,5,3],[3,4,5]),([6,3],[3,6]),([3],[3]),([3],[3]),([8,9,3],[3,8,9]),([10,3],[3,10]),([7,11,3,3],[3,7,11]),([3,12],[3,12])])
def slices_partitionEqualOrdered_uint64.B5 : List Nat := [0,0,3,7,15,15,63,127,15,15,783,1807,4095,8191]
theorem slices_partitionEqualOrdered_uint64.tab5 : rtab .any (opsOf Try.f112 5) = slices_partitionEqualOrdered_uint64.T5 := by kernel_rfl
theorem slices_partitionEqualOrdered_uint64.bits5 : waitsOk slices_partitionEqualOrdered_uint64.T5.2 slices_partitionEqualOrdered_uint64.B5 = true := by kernel_rfl
def slices_partitionEqualOrdered_uint64.T8 : Bool × List (List Nat × List Nat) := (true,[([],[]),([],[]),([],[]),([],[]),([],[]),([],[]),([4,5],[4,5]),([6],[6]),([],[]),([],[]),([8,9],[8,9]),([10],[10]),([0,1,0,1,4,5,6,7,11],[0,1]),([12,7,0,1,4,5,6,7,11],[7,12]),([2,3,0,1,2,3,4,5,6,7,8,9,10,11,12,13],[2,3]),([14,11,13,0,1,2,3,4,5,6,7,8,9,10,11,12,13],[11,14])])
def slices_partitionEqualOrdered_uint64.B8 : List Nat := [0,0,0,0,0,0,48,112,0,0,768,1792,4083,8179,16383,32767]
theorem slices_partitionEqualOrdered_uint64.tab8 : rtab .any (opsOf Try.f112 8) = slices_partitionEqualOrdered_uint64.T8 := by kernel_rfl
theorem slices_partitionEqualOrdered_uint64.bits8 : waitsOk slices_partitionEqualOrdered_uint64.T8.2 slices_partitionEqualOrdered_uint64.B8 = true := by kernel_rfl
set_option maxHeartbeats 8000000 in
set_option maxRecDepth 100000 in
theorem slices_partitionEqualOrdered_uint64.calls (k : Nat) (P0_ : Nat → Prop) (u9000_ : Value) (l0 : List Int) (a1 : Int) (a2 : Int) (a3 : Int) (r1 : Int) (r2 : List Int) (w0 w : World) (hB : Below w0.heap.size w0 w) (ho0 : Kd.R (Kd.int .u64) 22 w w0.heap.size P0_ u9000_ l0) (h : slices_partitionEqualOrdered_uint64.f k l0 a1 a2 a3 = some (r1,r2)) :
  Calls Try.prog 112 #[u9000_,.int .i64 a1,.int .i64 a2,.int .i64 a3] w fun e w' => e = .returned (.int .i64 r1) ∧ Kd.R (Kd.int .u64) 22 w' w0.heap.size (fun k_ => (P0_ k_ ∨ w.heap.size ≤ k_)) u9000_ r2 ∧ Below w0.heap.size w0 w' ∧ Kept w w' (fun k_ => P0_ k_) := by
 have HO0 := am (show Kd.R (Kd.int .u64) 22 w w0.heap.size (fun k_ => (P0_ k_ ∨ w.heap.size ≤ k_)) u9000_ l0 from Kd.R_mono ho0 (fun k_ hk => (.inl hk)))
 have HK := am (Kept.refl w (fun k_ => P0_ k_))
 have HW0 := am hB.size
 have HB := am hB
 clear hB
 have H : (if 0 ≤ a3 then (if a3 < (l0.length : Int) then (if 0 ≤ a1 then (if a1 < (l0.length : Int) then (slices_partitionEqualOrdered_uint64.l0 k ((l0.set (a1 : Int).toNat (rd l0 a3)).set (a3 : Int).toNat (rd l0 a1)) a1 (wrap64 (a1 + 1)) (wrap64 (a2 - 1))) else (none)) else (none)) else (none)) else (none)) = some (r1,r2) := h
 clear h
 by_cases c5 : 0 ≤ a3
 ·rw [if_pos c5] at H
  have c5b0 : decide (0 ≤ a3) = true := decide_eq_true c5
  clear c5
  by_cases c6 : a3 < (l0.length : Int)
  ·rw [if_pos c6] at H
   have c6b0 : decide (a3 < (l0.length : Int)) = true := decide_eq_true c6
   clear c6
   by_cases c7 : 0 ≤ a1
   ·rw [if_pos c7] at H
    have c7b0 : decide (0 ≤ a1) = true := decide_eq_true c7
    clear c7
    by_cases c8 : a1 < (l0.length : Int)
    ·rw [if_pos c8] at H
     have c8b0 : decide (a1 < (l0.length : Int)) = true := decide_eq_true c8
     clear c8
     obtain ⟨y296,hy296⟩ : ∃ y_ : List Int,y_ = (l0.set (a1 : Int).toNat (rd l0 a3)) := ⟨_,rfl⟩
     replace H : (slices_partitionEqualOrdered_uint64.l0 k (y296.set (a3 : Int).toNat (rd l0 a1)) a1 (wrap64 (a1 + 1)) (wrap64 (a2 - 1))) = some (r1,r2) := by first|(rw [hy296];with_reducible exact H)|(have H2_ := (Option.bind_some _ _).symm.trans H;rw [hy296];with_reducible exact H2_)|(have H2_ := (Option.bind_some _ _).symm.trans H;with_reducible exact H2_)|with_reducible exact H|(rw [hy296];exact H)|exact H
     have Ny296 := am hy296
     clear hy296
     obtain ⟨y297,hy297⟩ : ∃ y_ : List Int,y_ = (y296.set (a3 : Int).toNat (rd l0 a1)) := ⟨_,rfl⟩
     replace H : (slices_partitionEqualOrdered_uint64.l0 k y297 a1 (wrap64 (a1 + 1)) (wrap64 (a2 - 1))) = some (r1,r2) := by first|(rw [hy297];with_reducible exact H)|(have H2_ := (Option.bind_some _ _).symm.trans H;rw [hy297];with_reducible exact H2_)|(have H2_ := (Option.bind_some _ _).symm.trans H;with_reducible exact H2_)|with_reducible exact H|(rw [hy297];exact H)|exact H
     have Ny297 := am hy297
     clear hy297
     have H' := am H
     clear H
     go_enter Try.func112,Try.ntmps112
     try go_wp2
     have n0_ := am (Kd.R_drew HO0.out)
     have n1_ := am (Kept.drew HK.out)
     have n2_ := am (below_drew1 HB.out)
     clear HO0
     clear HK
     clear HB
     have HO0 := n0_
     have HK := n1_
     have HB := n2_
     clear n0_ n1_ n2_
     obtain ⟨Ao12,co12,eo12⟩ := Kd.R_slice HO0.out
     (first|subst eo12|(injection eo12 with f1_ f2_ f3_;have f4_ := f1_.symm;have f5_ := f3_.symm;clear f1_ f2_ f3_;subst f4_;subst f5_))
     have p294 : 0 ≤ (a3 : Int) := od
     have q294 : a3 < (l0.length : Int) := od
     obtain ⟨ad294,e294,hx294_0⟩ := Kd.at_int (Kd.R_reads' HO0.out).2.2 a3 p294 q294
     cases e294
     replace p294 := eq_true p294
     replace q294 := eq_true q294
     have p295 : 0 ≤ (a1 : Int) := od
     have q295 : a1 < (l0.length : Int) := od
     obtain ⟨ad295,e295,hx295_0⟩ := Kd.at_int (Kd.R_reads' HO0.out).2.2 a1 p295 q295
     obtain rfl : ad294 = ad295 := (by injection e295)
     replace p295 := eq_true p295
     replace q295 := eq_true q295
     have p9 : 0 ≤ (a1 : Int) := od
     have q9 : (a1 : Int) < ((l0.length : Int) : Int) := od
     obtain ⟨go9,co9,eo9,gb9,gl9,cl9,HG9⟩ := Kd.R_form HO0.out (by omega)
     (first|cases eo9|(injection eo9 with ea_ en_ ec_;(first|subst ea_|(injection ea_ with ea_;subst ea_));subst ec_;clear en_))
     have GB9 := am gb9
     have GG9 := am HG9
     clear gb9 gl9 HG9
     have HMgo9 := am (show (P0_ go9 ∨ w.heap.size ≤ go9) from (HO0.out.1 _ rfl))
     (first|simp only [add_plain] at hx294_0|skip)
     (first|simp only [add_plain] at hx295_0|skip)
     obtain ⟨hx9_0,hf9_0⟩ := Kd.R_celln 0 HO0.out (a1 : Int) p9 q9
     replace p9 := eq_true p9
     replace q9 := eq_true q9
     have HP13 := Kd.R_putn HO0.out (a1 : Int) (rd l0 a3)
     rw [← Ny296.out] at HP13
     have HQ13 := am HP13
     clear HP13
     have p10 : 0 ≤ (a3 : Int) := od
     have q10 : (a3 : Int) < ((l0.length : Int) : Int) := od
     obtain ⟨hx10_0,hf10_0⟩ := Kd.R_celln 0 HQ13.out (a3 : Int) p10 q10
     replace p10 := eq_true p10
     replace q10 := eq_true q10
     have HP14 := Kd.R_putn HQ13.out (a3 : Int) (rd l0 a1)
     rw [← Ny297.out] at HP14
     have HQ14 := am HP14
     clear HP14
     refine start_ (n := 16) (S := fun w' => w'.cell? ⟨go9,(a3).toNat,none⟩ = some (.int .u64 (rd l0 a3)) ∧ w'.cell? ⟨go9,(a1).toNat,none⟩ = some (.int .u64 (rd l0 a1))) (ds := [13,15]) (bz 16 0) (by kernel_rfl) rfl rfl ⟨hx294_0,hx295_0⟩ (fun hHeld => ?_);refine with_tabW slices_partitionEqualOrdered_uint64.tab1 slices_partitionEqualOrdered_uint64.bits1 (fun HT_ HW_ => ?_)
     generalize w.drew = w11 at HO0 HK HB GG9 HQ13 HQ14 hf10_0 hf9_0 hx10_0 hx294_0 hx295_0 hx9_0 hHeld ⊢
     refine pk 0 11 (bz 16 1) HT_ ?_
     refine pk 1 12 (bz 16 3) HT_ ?_
     refine pk 2 13 (bz 16 7) HT_ ?_
     refine pk 3 14 (bz 16 15) HT_ ?_
     refine pk 4 15 (bz 16 31) HT_ ?_
     refine pk 5 16 (bz 16 63) HT_ ?_
     refine pk 6 17 (bz 16 127) HT_ ?_
     refine pk 8 19 (bz 16 383) HT_ ?_
     refine pk 9 20 (bz 16 895) HT_ ?_
     refine pk 10 21 (bz 16 1919) HT_ ?_
     refine tk 7 18 (bz 16 2047) HT_ HW_ hHeld ?_
     refine tk 11 22 (bz 16 4095) HT_ HW_ hHeld ?_
     refine pk 12 23 (bz 16 8191) HT_ ?_
     refine last_ (i := 13) (N := none) (bz 16 16383) rfl rfl (one_of HT_.out (by kernel_rfl)) (by decide) (fun K hK => ?_)
     refine skip_ (w1 := ?_) (by rfl) rfl ?_ ?_
     rotate_left
     ·go_simp
      rfl
     refine hK.out _ _ ?_
     clear hK K
     refine pk 14 24 (bz 16 32767) HT_ ?_
     refine last_ (i := 15) (N := none) (bz 16 65535) rfl rfl (one_of HT_.out (by kernel_rfl)) (by decide) (fun K hK => ?_)
     refine skip_ (w1 := ?_) (by rfl) rfl ?_ ?_
     rotate_left
     ·go_simp
      rfl
     refine hK.out _ _ ?_
     clear hK K
     refine done_ (done_of HT_.out (by kernel_rfl)) ?_
     try go_wp2
     go_loopg [9,10] k (fun kq v9 v10 w' => ∃ (x0_1 : List Int) (x9_1 : Int) (x10_1 : Int),v9 = .int .i64 x9_1 ∧ v10 = .int .i64 x10_1 ∧ Aside0 (slices_partitionEqualOrdered_uint64.l0 kq x0_1 a1 x9_1 x10_1 = some (r1,r2)) ∧ Aside0 (kq ≤ k) ∧ Aside0 (Kd.R (Kd.int .u64) 22 w' w0.heap.size (fun k_ => (P0_ k_ ∨ w.heap.size ≤ k_)) (.slice (some ⟨go9,0,none⟩) l0.length co12) x0_1) ∧ Aside0 (Kept w w' (fun k_ => P0_ k_)) ∧ Aside0 (Below w0.heap.size w0 w'))
     case atStart => exact ⟨(y297),(wrap64 (a1 + 1)),(wrap64 (a2 - 1)),(by first|rfl|(simp;done)|(simp [*];done)),(by first|rfl|(simp;done)|(simp [*];done)),H',⟨Nat.le_refl _⟩,⟨by (with_reducible repeat (first|apply Kd.R_alloc|apply Kd.R_drewN|apply Kd.R_drew));exact HQ14.out⟩,⟨by repeat (first|(with_reducible first|exact HK.out|apply Kept.alloc|apply Kept.drewN|apply Kept.drew|refine Kept.setCell ?_ HMgo9.out _|refine Kept.setCell ?_ HMgo9.out _)|exact HK.out)⟩,⟨by repeat (first|(with_reducible first|exact HB.out|apply below_alloc|apply pw_below_drewN|apply below_drew1|refine below_set ?_ GB9.out|refine below_set ?_ GB9.out)|exact HB.out)⟩⟩
     case round =>
      clear H'
      try clear c1
      try clear p1
      try clear q1
      try clear hx1
      try clear p2
      try clear q2
      try clear hx2
      try clear c5
      try clear c5b0
      try clear c6
      try clear c6b0
      try clear p6
      try clear c7
      try clear c7b0
      try clear c8
      try clear c8b0
      try clear p9
      try clear q9
      try clear hx9
      try clear hf9
      try clear p10
      try clear q10
      try clear hx10
      try clear hf10
      try clear c11
      try clear hx10_0
      try clear hx294_0
      try clear hx295_0
      try clear hx9_0
      try clear p10
      try clear p294
      try clear p295
      try clear p9
      try clear q10
      try clear q294
      try clear q295
      try clear q9
      obtain ⟨x0_1,x9_1,x10_1,rfl,rfl,HA,HK1,HO_0,HK,HB⟩ := hrel
      have hl0_1 := (Kd.R_reads' HO_0.out).1
      rw [hl0_1] at HO_0
      (try simp only [hl0_1])
      cases gk with
      | zero => exact absurd HA.out (by simp [slices_partitionEqualOrdered_uint64.l0])
      | succ k1 =>
       have H := HA.out
       clear HA
       simp only [slices_partitionEqualOrdered_uint64.l0] at H
       have HC15 := am H
       clear H
       go_upto_block 2 with (fail)
       go_cut [9] (fun v9 wc => ∃ (kq : Nat) (x9_14 : Int),v9 = .int .i64 x9_14 ∧ Aside0 (slices_partitionEqualOrdered_uint64.j2 kq x0_1 a1 x9_14 x10_1 = some (r1,r2)) ∧ Aside0 (kq ≤ k1) ∧ Aside0 (Kd.R (Kd.int .u64) 22 wc w0.heap.size (fun k_ => (P0_ k_ ∨ w.heap.size ≤ k_)) (.slice (some ⟨go9,0,none⟩) x0_1.length co12) x0_1) ∧ Aside0 (Kept w wc (fun k_ => P0_ k_)) ∧ Aside0 (Below w0.heap.size w0 wc))
       case first =>
        have H := HC15.out
        clear HC15
        have H' := am H
        clear H
        go_wp2
        go_loopg [9] k1 (fun kq v9 w' => ∃ (x9_2 : Int),v9 = .int .i64 x9_2 ∧ Aside0 (slices_partitionEqualOrdered_uint64.l1 kq x0_1 a1 x9_2 x10_1 = some (r1,r2)) ∧ Aside0 (kq ≤ k1) ∧ Aside0 (Kd.R (Kd.int .u64) 22 w' w0.heap.size (fun k_ => (P0_ k_ ∨ w.heap.size ≤ k_)) (.slice (some ⟨go9,0,none⟩) x0_1.length co12) x0_1) ∧ Aside0 (Kept w w' (fun k_ => P0_ k_)) ∧ Aside0 (Below w0.heap.size w0 w'))
        case atStart => exact ⟨(x9_1),(by first|rfl|(simp;done)|(simp [*];done)),H',⟨Nat.le_refl _⟩,⟨by (try simp only [hl0_1]);(with_reducible repeat (first|apply Kd.R_alloc|apply Kd.R_drewN|apply Kd.R_drew));exact HO_0.out⟩,⟨by repeat (first|(with_reducible first|exact HK.out|apply Kept.alloc|apply Kept.drewN|apply Kept.drew)|exact HK.out)⟩,⟨bb HB⟩⟩
        case round =>
         clear H'
         try clear c1
         try clear p1
         try clear q1
         try clear hx1
         try clear p2
         try clear q2
         try clear hx2
         try clear c5
         try clear c5b0
         try clear c6
         try clear c6b0
         try clear p6
         try clear c7
         try clear c7b0
         try clear c8
         try clear c8b0
         try clear p9
         try clear q9
         try clear hx9
         try clear hf9
         try clear p10
         try clear q10
         try clear hx10
         try clear hf10
         try clear c11
         try clear hx10_0
         try clear hx294_0
         try clear hx295_0
         try clear hx9_0
         try clear p1
         try clear p10
         try clear p2
         try clear p294
         try clear p295
         try clear p6
         try clear p9
         try clear q1
         try clear q10
         try clear q2
         try clear q294
         try clear q295
         try clear q9
         obtain ⟨x9_2,rfl,HA,HK2,HO_0,HK,HB⟩ := hrel
         cases gk with
         | zero => exact absurd HA.out (by simp [slices_partitionEqualOrdered_uint64.l1])
         | succ k2 =>
          have H := HA.out
          clear HA
          simp only [slices_partitionEqualOrdered_uint64.l1] at H
          by_cases c16 : x9_2 ≤ x10_1
          ·rw [if_pos c16] at H
           have c16b0 : decide (x9_2 ≤ x10_1) = true := decide_eq_true c16
           clear c16
           (first|rw [c16b0]|(simp only [i64_w,i32_w];rw [c16b0])|skip)
           by_cases c17 : 0 ≤ a1
           ·rw [if_pos c17] at H
            have c17b0 : decide (0 ≤ a1) = true := decide_eq_true c17
            clear c17
            by_cases c18 : a1 < (x0_1.length : Int)
            ·rw [if_pos c18] at H
             have c18b0 : decide (a1 < (x0_1.length : Int)) = true := decide_eq_true c18
             clear c18
             by_cases c19 : 0 ≤ x9_2
             ·rw [if_pos c19] at H
              have c19b0 : decide (0 ≤ x9_2) = true := decide_eq_true c19
              clear c19
              by_cases c20 : x9_2 < (x0_1.length : Int)
              ·rw [if_pos c20] at H
               have c20b0 : decide (x9_2 < (x0_1.length : Int)) = true := decide_eq_true c20
               clear c20
               replace H := Option.bind_eq_some_iff.mp H
               obtain ⟨t300,A210,H⟩ := H
               try dsimp only at H
               have A21 := am A210
               clear A210
               by_cases c22 : t300 = true
               ·subst c22
                rw [if_pos rfl] at H
                have H' := am H
                clear H
                try go_wp2
                have n0_ := am (Kd.R_drew HO_0.out)
                have n1_ := am (Kept.drew HK.out)
                have n2_ := am (below_drew1 HB.out)
                clear HO_0
                clear HK
                clear HB
                have HO_0 := n0_
                have HK := n1_
                have HB := n2_
                clear n0_ n1_ n2_
                have p298 : 0 ≤ (a1 : Int) := od
                have q298 : a1 < (x0_1.length : Int) := od
                obtain ⟨ad298,e298,hx298_0⟩ := Kd.at_int (Kd.R_reads' HO_0.out).2.2 a1 p298 q298
                obtain rfl : (⟨go9,0,none⟩ : Addr) = ad298 := (by injection e298)
                (first|simp only [add_plain] at hx298_0|simp only [add_at] at hx298_0|simp only [Addr.add,Nat.zero_add] at hx298_0|skip)
                replace p298 := eq_true p298
                replace q298 := eq_true q298
                have p299 : 0 ≤ (x9_2 : Int) := od
                have q299 : x9_2 < (x0_1.length : Int) := od
                obtain ⟨ad299,e299,hx299_0⟩ := Kd.at_int (Kd.R_reads' HO_0.out).2.2 x9_2 p299 q299
                obtain rfl : (⟨go9,0,none⟩ : Addr) = ad299 := (by injection e299)
                (first|simp only [add_plain] at hx299_0|simp only [add_at] at hx299_0|simp only [Addr.add,Nat.zero_add] at hx299_0|skip)
                replace p299 := eq_true p299
                replace q299 := eq_true q299
                refine start_ (n := 15) (S := fun w' => w'.cell? ⟨go9,(a1).toNat,none⟩ = some (.int .u64 (rd x0_1 a1)) ∧ w'.cell? ⟨go9,(x9_2).toNat,none⟩ = some (.int .u64 (rd x0_1 x9_2))) (ds := []) (bz 15 0) (by kernel_rfl) rfl rfl ⟨hx298_0,hx299_0⟩ (fun hHeld => ?_);refine with_tabW slices_partitionEqualOrdered_uint64.tab3 slices_partitionEqualOrdered_uint64.bits3 (fun HT_ HW_ => ?_)
                generalize wr.drew = w23 at HO_0 HK HB hx298_0 hx299_0 hHeld ⊢
                refine pk 0 29 (bz 15 1) HT_ ?_
                refine pk 1 30 (bz 15 3) HT_ ?_
                refine pk 2 31 (bz 15 7) HT_ ?_
                refine pk 3 32 (bz 15 15) HT_ ?_
                refine pk 4 33 (bz 15 31) HT_ ?_
                refine pk 5 34 (bz 15 63) HT_ ?_
                refine pk 6 35 (bz 15 127) HT_ ?_
                refine pk 8 37 (bz 15 383) HT_ ?_
                refine pk 9 38 (bz 15 895) HT_ ?_
                refine pk 10 39 (bz 15 1919) HT_ ?_
                refine tk 7 36 (bz 15 2047) HT_ HW_ hHeld ?_
                refine tk 11 40 (bz 15 4095) HT_ HW_ hHeld ?_
                refine on 12 41 (bz 15 8191) HT_ (fun K hK => ?_)
                refine goes_ Try.func111 (by kernel_rfl) rfl #[.int .u64 (rd x0_1 a1),.int .u64 (rd x0_1 x9_2)] (by rfl) rfl rfl (by (try simp only [List.map_toArray,List.map_cons,List.map_nil]);first|done|rfl|(simp only [List.length_drop,List.length_take];rfl)) ?_
                with_reducible refine (cmp_Less_uint64.calls (rd x0_1 a1) (rd x0_1 x9_2) true _ A21.out).mono ?_
                rintro e w' ⟨rfl,⟨nd,rfl⟩⟩
                refine ⟨_,rfl,?_⟩
                refine hK.out _ _ ⟨hHeld.1,hHeld.2⟩ (fun hHeld => ?_)
                clear hK K
                refine nm 41 ?_
                refine pk 13 42 (bz 15 16383) HT_ ?_
                refine pk 14 43 (bz 15 32767) HT_ ?_
                refine done_ (done_of HT_.out (by kernel_rfl)) ?_
                try go_wp2
                go_meet
                case rel => exact ⟨_,(x9_2),(by first|rfl|(simp;done)|(simp [*];done)),H',⟨by have := HK1.out;have := HK2.out;first|omega|exact Nat.le_refl _⟩,⟨by (try simp only [hl0_1]);(with_reducible repeat (first|apply Kd.R_alloc|apply Kd.R_drewN|apply Kd.R_drew));exact HO_0.out⟩,⟨by repeat (first|(with_reducible first|exact HK.out|apply Kept.alloc|apply Kept.drewN|apply Kept.drew)|exact HK.out)⟩,⟨bb HB⟩⟩
               ·replace c22 := Bool.eq_false_iff.mpr c22
                subst c22
                rw [if_neg (show ¬ (false = true) by decide)] at H
                have H' := am H
                clear H
                try go_wp2
                have n0_ := am (Kd.R_drew HO_0.out)
                have n1_ := am (Kept.drew HK.out)
                have n2_ := am (below_drew1 HB.out)
                clear HO_0
                clear HK
                clear HB
                have HO_0 := n0_
                have HK := n1_
                have HB := n2_
                clear n0_ n1_ n2_
                have p298 : 0 ≤ (a1 : Int) := od
                have q298 : a1 < (x0_1.length : Int) := od
                obtain ⟨ad298,e298,hx298_0⟩ := Kd.at_int (Kd.R_reads' HO_0.out).2.2 a1 p298 q298
                obtain rfl : (⟨go9,0,none⟩ : Addr) = ad298 := (by injection e298)
                (first|simp only [add_plain] at hx298_0|simp only [add_at] at hx298_0|simp only [Addr.add,Nat.zero_add] at hx298_0|skip)
                replace p298 := eq_true p298
                replace q298 := eq_true q298
                have p299 : 0 ≤ (x9_2 : Int) := od
                have q299 : x9_2 < (x0_1.length : Int) := od
                obtain ⟨ad299,e299,hx299_0⟩ := Kd.at_int (Kd.R_reads' HO_0.out).2.2 x9_2 p299 q299
                obtain rfl : (⟨go9,0,none⟩ : Addr) = ad299 := (by injection e299)
                (first|simp only [add_plain] at hx299_0|simp only [add_at] at hx299_0|simp only [Addr.add,Nat.zero_add] at hx299_0|skip)
                replace p299 := eq_true p299
                replace q299 := eq_true q299
                refine start_ (n := 15) (S := fun w' => w'.cell? ⟨go9,(a1).toNat,none⟩ = some (.int .u64 (rd x0_1 a1)) ∧ w'.cell? ⟨go9,(x9_2).toNat,none⟩ = some (.int .u64 (rd x0_1 x9_2))) (ds := []) (bz 15 0) (by kernel_rfl) rfl rfl ⟨hx298_0,hx299_0⟩ (fun hHeld => ?_);refine with_tabW slices_partitionEqualOrdered_uint64.tab3 slices_partitionEqualOrdered_uint64.bits3 (fun HT_ HW_ => ?_)
                generalize wr.drew = w24 at HO_0 HK HB hx298_0 hx299_0 hHeld ⊢
                refine pk 0 29 (bz 15 1) HT_ ?_
                refine pk 1 30 (bz 15 3) HT_ ?_
                refine pk 2 31 (bz 15 7) HT_ ?_
                refine pk 3 32 (bz 15 15) HT_ ?_
                refine pk 4 33 (bz 15 31) HT_ ?_
                refine pk 5 34 (bz 15 63) HT_ ?_
                refine pk 6 35 (bz 15 127) HT_ ?_
                refine pk 8 37 (bz 15 383) HT_ ?_
                refine pk 9 38 (bz 15 895) HT_ ?_
                refine pk 10 39 (bz 15 1919) HT_ ?_
                refine tk 7 36 (bz 15 2047) HT_ HW_ hHeld ?_
                refine tk 11 40 (bz 15 4095) HT_ HW_ hHeld ?_
                refine on 12 41 (bz 15 8191) HT_ (fun K hK => ?_)
                refine goes_ Try.func111 (by kernel_rfl) rfl #[.int .u64 (rd x0_1 a1),.int .u64 (rd x0_1 x9_2)] (by rfl) rfl rfl (by (try simp only [List.map_toArray,List.map_cons,List.map_nil]);first|done|rfl|(simp only [List.length_drop,List.length_take];rfl)) ?_
                with_reducible refine (cmp_Less_uint64.calls (rd x0_1 a1) (rd x0_1 x9_2) false _ A21.out).mono ?_
                rintro e w' ⟨rfl,⟨nd,rfl⟩⟩
                refine ⟨_,rfl,?_⟩
                refine hK.out _ _ ⟨hHeld.1,hHeld.2⟩ (fun hHeld => ?_)
                clear hK K
                refine nm 41 ?_
                refine pk 13 42 (bz 15 16383) HT_ ?_
                refine pk 14 43 (bz 15 32767) HT_ ?_
                refine done_ (done_of HT_.out (by kernel_rfl)) ?_
                try go_wp2
                go_roundg k2
                case measure => have := HK1.out;have := HK2.out;omega
                case rel => exact ⟨(wrap64 (x9_2 + 1)),(by first|rfl|(simp;done)|(simp [*];done)),H',⟨by have := HK1.out;have := HK2.out;omega⟩,⟨by (try simp only [hl0_1]);(with_reducible repeat (first|apply Kd.R_alloc|apply Kd.R_drewN|apply Kd.R_drew));exact HO_0.out⟩,⟨by repeat (first|(with_reducible first|exact HK.out|apply Kept.alloc|apply Kept.drewN|apply Kept.drew)|exact HK.out)⟩,⟨bb HB⟩⟩
              ·rw [if_neg c20] at H
               exact absurd H (by simp)
             ·rw [if_neg c19] at H
              exact absurd H (by simp)
            ·rw [if_neg c18] at H
             exact absurd H (by simp)
           ·rw [if_neg c17] at H
            exact absurd H (by simp)
          ·rw [if_neg c16] at H
           have c16b0 : decide (x9_2 ≤ x10_1) = false := decide_eq_false c16
           clear c16
           (first|rw [c16b0]|(simp only [i64_w,i32_w];rw [c16b0])|skip)
           have H' := am H
           clear H
           try go_wp2
           have n0_ := am (Kd.R_drew HO_0.out)
           have n1_ := am (Kept.drew HK.out)
           have n2_ := am (below_drew1 HB.out)
           clear HO_0
           clear HK
           clear HB
           have HO_0 := n0_
           have HK := n1_
           have HB := n2_
           clear n0_ n1_ n2_
           refine start_ (n := 15) (S := fun w' => True) (ds := []) (bz 15 0) (by kernel_rfl) rfl rfl trivial (fun hHeld => ?_);refine with_tabW slices_partitionEqualOrdered_uint64.tab3 slices_partitionEqualOrdered_uint64.bits3 (fun HT_ HW_ => ?_)
           generalize wr.drew = w25 at HO_0 HK HB hHeld ⊢
           refine pk 0 29 (bz 15 1) HT_ ?_
           refine pk 1 30 (bz 15 3) HT_ ?_
           refine pk 2 31 (bz 15 7) HT_ ?_
           refine pk 3 32 (bz 15 15) HT_ ?_
           refine pz 4 33 (bz 15 31) HT_ ?_
           refine pz 5 34 (bz 15 63) HT_ ?_
           refine pz 6 35 (bz 15 127) HT_ ?_
           refine pz 7 36 (bz 15 255) HT_ ?_
           refine pz 8 37 (bz 15 511) HT_ ?_
           refine pz 9 38 (bz 15 1023) HT_ ?_
           refine pz 10 39 (bz 15 2047) HT_ ?_
           refine pz 11 40 (bz 15 4095) HT_ ?_
           refine pz 12 41 (bz 15 8191) HT_ ?_
           refine pz 13 42 (bz 15 16383) HT_ ?_
           refine pk 14 43 (bz 15 32767) HT_ ?_
           refine done_ (done_of HT_.out (by kernel_rfl)) ?_
           try go_wp2
           go_meet
           case rel => exact ⟨_,(x9_2),(by first|rfl|(simp;done)|(simp [*];done)),H',⟨by have := HK1.out;have := HK2.out;first|omega|exact Nat.le_refl _⟩,⟨by (try simp only [hl0_1]);(with_reducible repeat (first|apply Kd.R_alloc|apply Kd.R_drewN|apply Kd.R_drew));exact HO_0.out⟩,⟨by repeat (first|(with_reducible first|exact HK.out|apply Kept.alloc|apply Kept.drewN|apply Kept.drew)|exact HK.out)⟩,⟨bb HB⟩⟩
       case rest =>
        clear HC15
        try clear c1
        try clear p1
        try clear q1
        try clear hx1
        try clear c2
        try clear p2
        try clear q2
        try clear hx2
        try clear c5
        try clear c5b0
        try clear c6
        try clear c6b0
        try clear p6
        try clear c7
        try clear c7b0
        try clear c8
        try clear c8b0
        try clear p9
        try clear q9
        try clear hx9
        try clear hf9
        try clear p10
        try clear q10
        try clear hx10
        try clear hf10
        try clear c11
        try clear c16
        try clear c16b0
        try clear c17
        try clear c17b0
        try clear c18
        try clear c18b0
        try clear c19
        try clear c19b0
        try clear c20
        try clear c20b0
        try clear c22
        try clear hx10_0
        try clear hx294_0
        try clear hx295_0
        try clear hx298_0
        try clear hx299_0
        try clear hx9_0
        try clear p1
        try clear p10
        try clear p2
        try clear p294
        try clear p295
        try clear p298
        try clear p299
        try clear p6
        try clear p9
        try clear q1
        try clear q10
        try clear q2
        try clear q294
        try clear q295
        try clear q298
        try clear q299
        try clear q9
        obtain ⟨kq,x9_14,rfl,HA,HJ14,HO_0,HK,HB⟩ := hcut
        cases kq with
        | zero => exact absurd HA.out (by simp [slices_partitionEqualOrdered_uint64.j2])
        | succ kj14 =>
         have H := HA.out
         clear HA
         simp only [slices_partitionEqualOrdered_uint64.j2] at H
         have H' := am H
         clear H
         go_wp2
         go_loopg [10] kj14 (fun kq v10 w' => ∃ (x10_3 : Int),v10 = .int .i64 x10_3 ∧ Aside0 (slices_partitionEqualOrdered_uint64.l2 kq x0_1 a1 x9_14 x10_3 = some (r1,r2)) ∧ Aside0 (kq ≤ kj14) ∧ Aside0 (Kd.R (Kd.int .u64) 22 w' w0.heap.size (fun k_ => (P0_ k_ ∨ w.heap.size ≤ k_)) (.slice (some ⟨go9,0,none⟩) x0_1.length co12) x0_1) ∧ Aside0 (Kept w w' (fun k_ => P0_ k_)) ∧ Aside0 (Below w0.heap.size w0 w'))
         case atStart => exact ⟨(x10_1),(by first|rfl|(simp;done)|(simp [*];done)),H',⟨Nat.le_refl _⟩,⟨by (try simp only [hl0_1]);(with_reducible repeat (first|apply Kd.R_alloc|apply Kd.R_drewN|apply Kd.R_drew));exact HO_0.out⟩,⟨by repeat (first|(with_reducible first|exact HK.out|apply Kept.alloc|apply Kept.drewN|apply Kept.drew)|exact HK.out)⟩,⟨bb HB⟩⟩
         case round =>
          clear H'
          try clear c1
          try clear p1
          try clear q1
          try clear hx1
          try clear c2
          try clear p2
          try clear q2
          try clear hx2
          try clear c5
          try clear c5b0
          try clear c6
          try clear c6b0
          try clear p6
          try clear c7
          try clear c7b0
          try clear c8
          try clear c8b0
          try clear p9
          try clear q9
          try clear hx9
          try clear hf9
          try clear p10
          try clear q10
          try clear hx10
          try clear hf10
          try clear c11
          try clear c16
          try clear c16b0
          try clear c17
          try clear c17b0
          try clear c18
          try clear c18b0
          try clear c19
          try clear c19b0
          try clear c20
          try clear c20b0
          try clear c22
          try clear hx10_0
          try clear hx294_0
          try clear hx295_0
          try clear hx298_0
          try clear hx299_0
          try clear hx9_0
          try clear p1
          try clear p10
          try clear p2
          try clear p294
          try clear p295
          try clear p298
          try clear p299
          try clear p6
          try clear p9
          try clear q1
          try clear q10
          try clear q2
          try clear q294
          try clear q295
          try clear q298
          try clear q299
          try clear q9
          obtain ⟨x10_3,rfl,HA,HK3,HO_0,HK,HB⟩ := hrel
          cases gk with
          | zero => exact absurd HA.out (by simp [slices_partitionEqualOrdered_uint64.l2])
          | succ k3 =>
           have H := HA.out
           clear HA
           simp only [slices_partitionEqualOrdered_uint64.l2] at H
           by_cases c26 : x9_14 ≤ x10_3
           ·rw [if_pos c26] at H
            have c26b0 : decide (x9_14 ≤ x10_3) = true := decide_eq_true c26
            clear c26
            by_cases c27 : 0 ≤ a1
            ·rw [if_pos c27] at H
             have c27b0 : decide (0 ≤ a1) = true := decide_eq_true c27
             clear c27
             by_cases c28 : a1 < (x0_1.length : Int)
             ·rw [if_pos c28] at H
              have c28b0 : decide (a1 < (x0_1.length : Int)) = true := decide_eq_true c28
              clear c28
              by_cases c29 : 0 ≤ x10_3
              ·rw [if_pos c29] at H
               have c29b0 : decide (0 ≤ x10_3) = true := decide_eq_true c29
               clear c29
               by_cases c30 : x10_3 < (x0_1.length : Int)
               ·rw [if_pos c30] at H
                have c30b0 : decide (x10_3 < (x0_1.length : Int)) = true := decide_eq_true c30
                clear c30
                replace H := Option.bind_eq_some_iff.mp H
                obtain ⟨t303,A310,H⟩ := H
                try dsimp only at H
                have A31 := am A310
                clear A310
                by_cases c32 : t303 = true
                ·subst c32
                 rw [if_pos rfl] at H
                 have H' := am H
                 clear H
                 try go_wp2
                 have n0_ := am (Kd.R_drew HO_0.out)
                 have n1_ := am (Kept.drew HK.out)
                 have n2_ := am (below_drew1 HB.out)
                 clear HO_0
                 clear HK
                 clear HB
                 have HO_0 := n0_
                 have HK := n1_
                 have HB := n2_
                 clear n0_ n1_ n2_
                 have p301 : 0 ≤ (a1 : Int) := od
                 have q301 : a1 < (x0_1.length : Int) := od
                 obtain ⟨ad301,e301,hx301_0⟩ := Kd.at_int (Kd.R_reads' HO_0.out).2.2 a1 p301 q301
                 obtain rfl : (⟨go9,0,none⟩ : Addr) = ad301 := (by injection e301)
                 (first|simp only [add_plain] at hx301_0|simp only [add_at] at hx301_0|simp only [Addr.add,Nat.zero_add] at hx301_0|skip)
                 replace p301 := eq_true p301
                 replace q301 := eq_true q301
                 have p302 : 0 ≤ (x10_3 : Int) := od
                 have q302 : x10_3 < (x0_1.length : Int) := od
                 obtain ⟨ad302,e302,hx302_0⟩ := Kd.at_int (Kd.R_reads' HO_0.out).2.2 x10_3 p302 q302
                 obtain rfl : (⟨go9,0,none⟩ : Addr) = ad302 := (by injection e302)
                 (first|simp only [add_plain] at hx302_0|simp only [add_at] at hx302_0|simp only [Addr.add,Nat.zero_add] at hx302_0|skip)
                 replace p302 := eq_true p302
                 replace q302 := eq_true q302
                 refine start_ (n := 14) (S := fun w' => w'.cell? ⟨go9,(a1).toNat,none⟩ = some (.int .u64 (rd x0_1 a1)) ∧ w'.cell? ⟨go9,(x10_3).toNat,none⟩ = some (.int .u64 (rd x0_1 x10_3))) (ds := []) (bz 14 0) (by kernel_rfl) rfl rfl ⟨hx301_0,hx302_0⟩ (fun hHeld => ?_);refine with_tabW slices_partitionEqualOrdered_uint64.tab5 slices_partitionEqualOrdered_uint64.bits5 (fun HT_ HW_ => ?_)
                 generalize wr.drew = w33 at HO_0 HK HB hx301_0 hx302_0 hHeld ⊢
                 refine pk 0 46 (bz 14 1) HT_ ?_
                 refine pk 1 47 (bz 14 3) HT_ ?_
                 refine pk 2 48 (bz 14 7) HT_ ?_
                 refine pk 3 49 (bz 14 15) HT_ ?_
                 refine pk 4 50 (bz 14 31) HT_ ?_
                 refine pk 5 51 (bz 14 63) HT_ ?_
                 refine pk 6 52 (bz 14 127) HT_ ?_
                 refine pk 8 54 (bz 14 383) HT_ ?_
                 refine pk 9 55 (bz 14 895) HT_ ?_
                 refine pk 10 56 (bz 14 1919) HT_ ?_
                 refine tk 7 53 (bz 14 2047) HT_ HW_ hHeld ?_
                 refine tk 11 57 (bz 14 4095) HT_ HW_ hHeld ?_
                 refine on 12 58 (bz 14 8191) HT_ (fun K hK => ?_)
                 refine goes_ Try.func111 (by kernel_rfl) rfl #[.int .u64 (rd x0_1 a1),.int .u64 (rd x0_1 x10_3)] (by rfl) rfl rfl (by (try simp only [List.map_toArray,List.map_cons,List.map_nil]);first|done|rfl|(simp only [List.length_drop,List.length_take];rfl)) ?_
                 with_reducible refine (cmp_Less_uint64.calls (rd x0_1 a1) (rd x0_1 x10_3) true _ A31.out).mono ?_
                 rintro e w' ⟨rfl,⟨nd,rfl⟩⟩
                 refine ⟨_,rfl,?_⟩
                 refine hK.out _ _ ⟨hHeld.1,hHeld.2⟩ (fun hHeld => ?_)
                 clear hK K
                 refine nm 58 ?_
                 refine pk 13 59 (bz 14 16383) HT_ ?_
                 refine done_ (done_of HT_.out (by kernel_rfl)) ?_
                 try go_wp2
                 go_roundg k3
                 case measure => have := HK1.out;have := HJ14.out;have := HK3.out;omega
                 case rel => exact ⟨(wrap64 (x10_3 - 1)),(by first|rfl|(simp;done)|(simp [*];done)),H',⟨by have := HK1.out;have := HJ14.out;have := HK3.out;omega⟩,⟨by (try simp only [hl0_1]);(with_reducible repeat (first|apply Kd.R_alloc|apply Kd.R_drewN|apply Kd.R_drew));exact HO_0.out⟩,⟨by repeat (first|(with_reducible first|exact HK.out|apply Kept.alloc|apply Kept.drewN|apply Kept.drew)|exact HK.out)⟩,⟨bb HB⟩⟩
                ·replace c32 := Bool.eq_false_iff.mpr c32
                 subst c32
                 rw [if_neg (show ¬ (false = true) by decide)] at H
                 by_cases c34 : x9_14 > x10_3
                 ·rw [if_pos c34] at H
                  have c34b0 : decide (x10_3 < x9_14) = true := decide_eq_true c34
                  clear c34
                  simp only [Option.some.injEq,Prod.mk.injEq] at H
                  obtain ⟨rfl,rfl⟩ := H
                  try go_wp2
                  have n0_ := am (Kd.R_drew HO_0.out)
                  have n1_ := am (Kept.drew HK.out)
                  have n2_ := am (below_drew1 HB.out)
                  clear HO_0
                  clear HK
                  clear HB
                  have HO_0 := n0_
                  have HK := n1_
                  have HB := n2_
                  clear n0_ n1_ n2_
                  have p301 : 0 ≤ (a1 : Int) := od
                  have q301 : a1 < (x0_1.length : Int) := od
                  obtain ⟨ad301,e301,hx301_0⟩ := Kd.at_int (Kd.R_reads' HO_0.out).2.2 a1 p301 q301
                  obtain rfl : (⟨go9,0,none⟩ : Addr) = ad301 := (by injection e301)
                  (first|simp only [add_plain] at hx301_0|simp only [add_at] at hx301_0|simp only [Addr.add,Nat.zero_add] at hx301_0|skip)
                  replace p301 := eq_true p301
                  replace q301 := eq_true q301
                  have p302 : 0 ≤ (x10_3 : Int) := od
                  have q302 : x10_3 < (x0_1.length : Int) := od
                  obtain ⟨ad302,e302,hx302_0⟩ := Kd.at_int (Kd.R_reads' HO_0.out).2.2 x10_3 p302 q302
                  obtain rfl : (⟨go9,0,none⟩ : Addr) = ad302 := (by injection e302)
                  (first|simp only [add_plain] at hx302_0|simp only [add_at] at hx302_0|simp only [Addr.add,Nat.zero_add] at hx302_0|skip)
                  replace p302 := eq_true p302
                  replace q302 := eq_true q302
                  refine start_ (n := 14) (S := fun w' => w'.cell? ⟨go9,(a1).toNat,none⟩ = some (.int .u64 (rd x0_1 a1)) ∧ w'.cell? ⟨go9,(x10_3).toNat,none⟩ = some (.int .u64 (rd x0_1 x10_3))) (ds := []) (bz 14 0) (by kernel_rfl) rfl rfl ⟨hx301_0,hx302_0⟩ (fun hHeld => ?_);refine with_tabW slices_partitionEqualOrdered_uint64.tab5 slices_partitionEqualOrdered_uint64.bits5 (fun HT_ HW_ => ?_)
                  generalize wr.drew = w35 at HO_0 HK HB hx301_0 hx302_0 hHeld ⊢
                  refine pk 0 46 (bz 14 1) HT_ ?_
                  refine pk 1 47 (bz 14 3) HT_ ?_
                  refine pk 2 48 (bz 14 7) HT_ ?_
                  refine pk 3 49 (bz 14 15) HT_ ?_
                  refine pk 4 50 (bz 14 31) HT_ ?_
                  refine pk 5 51 (bz 14 63) HT_ ?_
                  refine pk 6 52 (bz 14 127) HT_ ?_
                  refine pk 8 54 (bz 14 383) HT_ ?_
                  refine pk 9 55 (bz 14 895) HT_ ?_
                  refine pk 10 56 (bz 14 1919) HT_ ?_
                  refine tk 7 53 (bz 14 2047) HT_ HW_ hHeld ?_
                  refine tk 11 57 (bz 14 4095) HT_ HW_ hHeld ?_
                  refine on 12 58 (bz 14 8191) HT_ (fun K hK => ?_)
                  refine goes_ Try.func111 (by kernel_rfl) rfl #[.int .u64 (rd x0_1 a1),.int .u64 (rd x0_1 x10_3)] (by rfl) rfl rfl (by (try simp only [List.map_toArray,List.map_cons,List.map_nil]);first|done|rfl|(simp only [List.length_drop,List.length_take];rfl)) ?_
                  with_reducible refine (cmp_Less_uint64.calls (rd x0_1 a1) (rd x0_1 x10_3) false _ A31.out).mono ?_
                  rintro e w' ⟨rfl,⟨nd,rfl⟩⟩
                  refine ⟨_,rfl,?_⟩
                  refine hK.out _ _ ⟨hHeld.1,hHeld.2⟩ (fun hHeld => ?_)
                  clear hK K
                  refine nm 58 ?_
                  refine pk 13 59 (bz 14 16383) HT_ ?_
                  refine done_ (done_of HT_.out (by kernel_rfl)) ?_
                  try go_wp2
                  go_ret
                  exact ⟨by first|rfl|(simp [errW_none,errW_some] <;> rfl)|(simp [*,errW_none,errW_some] <;> rfl),(by first|exact (rr HO_0)|(simp only [hl0_1];exact (rr HO_0))),by repeat (first|(with_reducible first|exact HB.out|apply below_alloc|apply pw_below_drewN|apply below_drew1)|exact HB.out),by repeat (first|(with_reducible first|exact HK.out|apply Kept.alloc|apply Kept.drewN|apply Kept.drew)|exact HK.out)⟩
                 ·rw [if_neg c34] at H
                  have c34b0 : decide (x10_3 < x9_14) = false := decide_eq_false c34
                  clear c34
                  by_cases c36 : 0 ≤ x9_14
                  ·rw [if_pos c36] at H
                   have c36b0 : decide (0 ≤ x9_14) = true := decide_eq_true c36
                   clear c36
                   by_cases c37 : x9_14 < (x0_1.length : Int)
                   ·rw [if_pos c37] at H
                    have c37b0 : decide (x9_14 < (x0_1.length : Int)) = true := decide_eq_true c37
                    clear c37
                    obtain ⟨y306,hy306⟩ : ∃ y_ : List Int,y_ = (x0_1.set (x9_14 : Int).toNat (rd x0_1 x10_3)) := ⟨_,rfl⟩
                    replace H : (slices_partitionEqualOrdered_uint64.l0 k3 (y306.set (x10_3 : Int).toNat (rd x0_1 x9_14)) a1 (wrap64 (x9_14 + 1)) (wrap64 (x10_3 - 1))) = some (r1,r2) := by first|(rw [hy306];with_reducible exact H)|(have H2_ := (Option.bind_some _ _).symm.trans H;rw [hy306];with_reducible exact H2_)|(have H2_ := (Option.bind_some _ _).symm.trans H;with_reducible exact H2_)|with_reducible exact H|(rw [hy306];exact H)|exact H
                    have Ny306 := am hy306
                    clear hy306
                    obtain ⟨y307,hy307⟩ : ∃ y_ : List Int,y_ = (y306.set (x10_3 : Int).toNat (rd x0_1 x9_14)) := ⟨_,rfl⟩
                    replace H : (slices_partitionEqualOrdered_uint64.l0 k3 y307 a1 (wrap64 (x9_14 + 1)) (wrap64 (x10_3 - 1))) = some (r1,r2) := by first|(rw [hy307];with_reducible exact H)|(have H2_ := (Option.bind_some _ _).symm.trans H;rw [hy307];with_reducible exact H2_)|(have H2_ := (Option.bind_some _ _).symm.trans H;with_reducible exact H2_)|with_reducible exact H|(rw [hy307];exact H)|exact H
                    have Ny307 := am hy307
                    clear hy307
                    have H' := am H
                    clear H
                    try go_wp2
                    have n0_ := am (Kd.R_drew HO_0.out)
                    have n1_ := am (Kept.drew HK.out)
                    have n2_ := am (below_drew1 HB.out)
                    clear HO_0
                    clear HK
                    clear HB
                    have HO_0 := n0_
                    have HK := n1_
                    have HB := n2_
                    clear n0_ n1_ n2_
                    have p301 : 0 ≤ (a1 : Int) := od
                    have q301 : a1 < (x0_1.length : Int) := od
                    obtain ⟨ad301,e301,hx301_0⟩ := Kd.at_int (Kd.R_reads' HO_0.out).2.2 a1 p301 q301
                    obtain rfl : (⟨go9,0,none⟩ : Addr) = ad301 := (by injection e301)
                    (first|simp only [add_plain] at hx301_0|simp only [add_at] at hx301_0|simp only [Addr.add,Nat.zero_add] at hx301_0|skip)
                    replace p301 := eq_true p301
                    replace q301 := eq_true q301
                    have p302 : 0 ≤ (x10_3 : Int) := od
                    have q302 : x10_3 < (x0_1.length : Int) := od
                    obtain ⟨ad302,e302,hx302_0⟩ := Kd.at_int (Kd.R_reads' HO_0.out).2.2 x10_3 p302 q302
                    obtain rfl : (⟨go9,0,none⟩ : Addr) = ad302 := (by injection e302)
                    (first|simp only [add_plain] at hx302_0|simp only [add_at] at hx302_0|simp only [Addr.add,Nat.zero_add] at hx302_0|skip)
                    replace p302 := eq_true p302
                    replace q302 := eq_true q302
                    refine start_ (n := 14) (S := fun w' => w'.cell? ⟨go9,(a1).toNat,none⟩ = some (.int .u64 (rd x0_1 a1)) ∧ w'.cell? ⟨go9,(x10_3).toNat,none⟩ = some (.int .u64 (rd x0_1 x10_3))) (ds := []) (bz 14 0) (by kernel_rfl) rfl rfl ⟨hx301_0,hx302_0⟩ (fun hHeld => ?_);refine with_tabW slices_partitionEqualOrdered_uint64.tab5 slices_partitionEqualOrdered_uint64.bits5 (fun HT_ HW_ => ?_)
                    generalize wr.drew = w40 at HO_0 HK HB hx301_0 hx302_0 hHeld ⊢
                    refine pk 0 46 (bz 14 1) HT_ ?_
                    refine pk 1 47 (bz 14 3) HT_ ?_
                    refine pk 2 48 (bz 14 7) HT_ ?_
                    refine pk 3 49 (bz 14 15) HT_ ?_
                    refine pk 4 50 (bz 14 31) HT_ ?_
                    refine pk 5 51 (bz 14 63) HT_ ?_
                    refine pk 6 52 (bz 14 127) HT_ ?_
                    refine pk 8 54 (bz 14 383) HT_ ?_
                    refine pk 9 55 (bz 14 895) HT_ ?_
                    refine pk 10 56 (bz 14 1919) HT_ ?_
                    refine tk 7 53 (bz 14 2047) HT_ HW_ hHeld ?_
                    refine tk 11 57 (bz 14 4095) HT_ HW_ hHeld ?_
                    refine on 12 58 (bz 14 8191) HT_ (fun K hK => ?_)
                    refine goes_ Try.func111 (by kernel_rfl) rfl #[.int .u64 (rd x0_1 a1),.int .u64 (rd x0_1 x10_3)] (by rfl) rfl rfl (by (try simp only [List.map_toArray,List.map_cons,List.map_nil]);first|done|rfl|(simp only [List.length_drop,List.length_take];rfl)) ?_
                    with_reducible refine (cmp_Less_uint64.calls (rd x0_1 a1) (rd x0_1 x10_3) false _ A31.out).mono ?_
                    rintro e w' ⟨rfl,⟨nd,rfl⟩⟩
                    refine ⟨_,rfl,?_⟩
                    refine hK.out _ _ ⟨hHeld.1,hHeld.2⟩ (fun hHeld => ?_)
                    clear hK K
                    refine nm 58 ?_
                    refine pk 13 59 (bz 14 16383) HT_ ?_
                    refine done_ (done_of HT_.out (by kernel_rfl)) ?_
                    try go_wp2
                    (try (rw [drewN_self w40];generalize hq_ : World.drewN w40 _ = w40;have n0_ : Aside0 (Kd.R (Kd.int .u64) 22 w40 w0.heap.size (fun k_ => (P0_ k_ ∨ w.heap.size ≤ k_)) (.slice (some ⟨go9,0,none⟩) x0_1.length co12) x0_1) := ⟨by rw [← hq_];exact (rr HO_0)⟩;have n1_ : Aside0 (Kept w w40 (fun k_ => P0_ k_)) := ⟨by rw [← hq_];exact (by repeat (first|(with_reducible first|exact HK.out|apply Kept.alloc|apply Kept.drewN|apply Kept.drew)|exact HK.out))⟩;have n2_ : Aside0 (Below w0.heap.size w0 w40) := ⟨by rw [← hq_];exact (bb HB)⟩;clear HO_0 HK HB hq_;have HO_0 := n0_;have HK := n1_;have HB := n2_;clear n0_ n1_ n2_))
                    have n0_ := am (Kd.R_drew HO_0.out)
                    have n1_ := am (Kept.drew HK.out)
                    have n2_ := am (below_drew1 HB.out)
                    clear HO_0
                    clear HK
                    clear HB
                    have HO_0 := n0_
                    have HK := n1_
                    have HB := n2_
                    clear n0_ n1_ n2_
                    have p304 : 0 ≤ (x10_3 : Int) := od
                    have q304 : x10_3 < (x0_1.length : Int) := od
                    obtain ⟨ad304,e304,hx304_0⟩ := Kd.at_int (Kd.R_reads' HO_0.out).2.2 x10_3 p304 q304
                    obtain rfl : (⟨go9,0,none⟩ : Addr) = ad304 := (by injection e304)
                    (first|simp only [add_plain] at hx304_0|simp only [add_at] at hx304_0|simp only [Addr.add,Nat.zero_add] at hx304_0|skip)
                    replace p304 := eq_true p304
                    replace q304 := eq_true q304
                    have p305 : 0 ≤ (x9_14 : Int) := od
                    have q305 : x9_14 < (x0_1.length : Int) := od
                    obtain ⟨ad305,e305,hx305_0⟩ := Kd.at_int (Kd.R_reads' HO_0.out).2.2 x9_14 p305 q305
                    obtain rfl : (⟨go9,0,none⟩ : Addr) = ad305 := (by injection e305)
                    (first|simp only [add_plain] at hx305_0|simp only [add_at] at hx305_0|simp only [Addr.add,Nat.zero_add] at hx305_0|skip)
                    replace p305 := eq_true p305
                    replace q305 := eq_true q305
                    have p38 : 0 ≤ (x9_14 : Int) := od
                    have q38 : (x9_14 : Int) < ((x0_1.length : Int) : Int) := od
                    obtain ⟨hx38_0,hf38_0⟩ := Kd.R_celln 0 HO_0.out (x9_14 : Int) p38 q38
                    replace p38 := eq_true p38
                    replace q38 := eq_true q38
                    have HP42 := Kd.R_putn HO_0.out (x9_14 : Int) (rd x0_1 x10_3)
                    rw [← Ny306.out] at HP42
                    have HQ42 := am HP42
                    clear HP42
                    have p39 : 0 ≤ (x10_3 : Int) := od
                    have q39 : (x10_3 : Int) < ((x0_1.length : Int) : Int) := od
                    obtain ⟨hx39_0,hf39_0⟩ := Kd.R_celln 0 HQ42.out (x10_3 : Int) p39 q39
                    replace p39 := eq_true p39
                    replace q39 := eq_true q39
                    have HP43 := Kd.R_putn HQ42.out (x10_3 : Int) (rd x0_1 x9_14)
                    rw [← Ny307.out] at HP43
                    have HQ43 := am HP43
                    clear HP43
                    refine start_ (n := 16) (S := fun w' => w'.cell? ⟨go9,(x10_3).toNat,none⟩ = some (.int .u64 (rd x0_1 x10_3)) ∧ w'.cell? ⟨go9,(x9_14).toNat,none⟩ = some (.int .u64 (rd x0_1 x9_14))) (ds := [13,15]) (bz 16 0) (by kernel_rfl) rfl rfl ⟨hx304_0,hx305_0⟩ (fun hHeld => ?_);refine with_tabW slices_partitionEqualOrdered_uint64.tab8 slices_partitionEqualOrdered_uint64.bits8 (fun HT_ HW_ => ?_)
                    generalize w40.drew = w41 at HO_0 HK HB HQ42 HQ43 hf38_0 hf39_0 hx304_0 hx305_0 hx38_0 hx39_0 hHeld ⊢
                    refine pk 0 65 (bz 16 1) HT_ ?_
                    refine pk 1 66 (bz 16 3) HT_ ?_
                    refine pk 2 67 (bz 16 7) HT_ ?_
                    refine pk 3 68 (bz 16 15) HT_ ?_
                    refine pk 4 69 (bz 16 31) HT_ ?_
                    refine pk 5 70 (bz 16 63) HT_ ?_
                    refine pk 6 71 (bz 16 127) HT_ ?_
                    refine pk 8 73 (bz 16 383) HT_ ?_
                    refine pk 9 74 (bz 16 895) HT_ ?_
                    refine pk 10 75 (bz 16 1919) HT_ ?_
                    refine tk 7 72 (bz 16 2047) HT_ HW_ hHeld ?_
                    refine tk 11 76 (bz 16 4095) HT_ HW_ hHeld ?_
                    refine pk 12 77 (bz 16 8191) HT_ ?_
                    refine last_ (i := 13) (N := none) (bz 16 16383) rfl rfl (one_of HT_.out (by kernel_rfl)) (by decide) (fun K hK => ?_)
                    refine skip_ (w1 := ?_) (by rfl) rfl ?_ ?_
                    rotate_left
                    ·go_simp
                     rfl
                    refine hK.out _ _ ?_
                    clear hK K
                    refine pk 14 78 (bz 16 32767) HT_ ?_
                    refine last_ (i := 15) (N := none) (bz 16 65535) rfl rfl (one_of HT_.out (by kernel_rfl)) (by decide) (fun K hK => ?_)
                    refine skip_ (w1 := ?_) (by rfl) rfl ?_ ?_
                    rotate_left
                    ·go_simp
                     rfl
                    refine hK.out _ _ ?_
                    clear hK K
                    refine done_ (done_of HT_.out (by kernel_rfl)) ?_
                    try go_wp2
                    (try simp only [← hl0_1])
                    go_roundg k3
                    case measure => have := HK1.out;have := HJ14.out;have := HK3.out;omega
                    case rel => exact ⟨(y307),(wrap64 (x9_14 + 1)),(wrap64 (x10_3 - 1)),(by first|rfl|(simp;done)|(simp [*];done)),(by first|rfl|(simp;done)|(simp [*];done)),H',⟨by have := HK1.out;have := HJ14.out;have := HK3.out;omega⟩,⟨by (try simp only [hl0_1]);(with_reducible repeat (first|apply Kd.R_alloc|apply Kd.R_drewN|apply Kd.R_drew));exact HQ43.out⟩,⟨by repeat (first|(with_reducible first|exact HK.out|apply Kept.alloc|apply Kept.drewN|apply Kept.drew|refine Kept.setCell ?_ HMgo9.out _|refine Kept.setCell ?_ HMgo9.out _)|exact HK.out)⟩,⟨by repeat (first|(with_reducible first|exact HB.out|apply below_alloc|apply pw_below_drewN|apply below_drew1|refine below_set ?_ GB9.out|refine below_set ?_ GB9.out)|exact HB.out)⟩⟩
                   ·rw [if_neg c37] at H
                    exact absurd H (by simp)
                  ·rw [if_neg c36] at H
                   exact absurd H (by simp)
               ·rw [if_neg c30] at H
                exact absurd H (by simp)
              ·rw [if_neg c29] at H
               exact absurd H (by simp)
             ·rw [if_neg c28] at H
              exact absurd H (by simp)
            ·rw [if_neg c27] at H
             exact absurd H (by simp)
           ·rw [if_neg c26] at H
            have c26b0 : decide (x9_14 ≤ x10_3) = false := decide_eq_false c26
            clear c26
            by_cases c44 : x9_14 > x10_3
            ·rw [if_pos c44] at H
             have c44b0 : decide (x10_3 < x9_14) = true := decide_eq_true c44
             clear c44
             simp only [Option.some.injEq,Prod.mk.injEq] at H
             obtain ⟨rfl,rfl⟩ := H
             try go_wp2
             have n0_ := am (Kd.R_drew HO_0.out)
             have n1_ := am (Kept.drew HK.out)
             have n2_ := am (below_drew1 HB.out)
             clear HO_0
             clear HK
             clear HB
             have HO_0 := n0_
             have HK := n1_
             have HB := n2_
             clear n0_ n1_ n2_
             refine start_ (n := 14) (S := fun w' => True) (ds := []) (bz 14 0) (by kernel_rfl) rfl rfl trivial (fun hHeld => ?_);refine with_tabW slices_partitionEqualOrdered_uint64.tab5 slices_partitionEqualOrdered_uint64.bits5 (fun HT_ HW_ => ?_)
             generalize wr.drew = w45 at HO_0 HK HB hHeld ⊢
             refine pk 0 46 (bz 14 1) HT_ ?_
             refine pk 1 47 (bz 14 3) HT_ ?_
             refine pk 2 48 (bz 14 7) HT_ ?_
             refine pk 3 49 (bz 14 15) HT_ ?_
             refine pz 4 50 (bz 14 31) HT_ ?_
             refine pz 5 51 (bz 14 63) HT_ ?_
             refine pz 6 52 (bz 14 127) HT_ ?_
             refine pz 7 53 (bz 14 255) HT_ ?_
             refine pz 8 54 (bz 14 511) HT_ ?_
             refine pz 9 55 (bz 14 1023) HT_ ?_
             refine pz 10 56 (bz 14 2047) HT_ ?_
             refine pz 11 57 (bz 14 4095) HT_ ?_
             refine pz 12 58 (bz 14 8191) HT_ ?_
             refine pk 13 59 (bz 14 16383) HT_ ?_
             refine done_ (done_of HT_.out (by kernel_rfl)) ?_
             try go_wp2
             go_ret
             exact ⟨by first|rfl|(simp [errW_none,errW_some] <;> rfl)|(simp [*,errW_none,errW_some] <;> rfl),(by first|exact (rr HO_0)|(simp only [hl0_1];exact (rr HO_0))),by repeat (first|(with_reducible first|exact HB.out|apply below_alloc|apply pw_below_drewN|apply below_drew1)|exact HB.out),by repeat (first|(with_reducible first|exact HK.out|apply Kept.alloc|apply Kept.drewN|apply Kept.drew)|exact HK.out)⟩
            ·rw [if_neg c44] at H
             have c44b0 : decide (x10_3 < x9_14) = false := decide_eq_false c44
             clear c44
             by_cases c46 : 0 ≤ x10_3
             ·rw [if_pos c46] at H
              have c46b0 : decide (0 ≤ x10_3) = true := decide_eq_true c46
              clear c46
              by_cases c47 : x10_3 < (x0_1.length : Int)
              ·rw [if_pos c47] at H
               have c47b0 : decide (x10_3 < (x0_1.length : Int)) = true := decide_eq_true c47
               clear c47
               by_cases c48 : 0 ≤ x9_14
               ·rw [if_pos c48] at H
                have c48b0 : decide (0 ≤ x9_14) = true := decide_eq_true c48
                clear c48
                by_cases c49 : x9_14 < (x0_1.length : Int)
                ·rw [if_pos c49] at H
                 have c49b0 : decide (x9_14 < (x0_1.length : Int)) = true := decide_eq_true c49
                 clear c49
                 obtain ⟨y310,hy310⟩ : ∃ y_ : List Int,y_ = (x0_1.set (x9_14 : Int).toNat (rd x0_1 x10_3)) := ⟨_,rfl⟩
                 replace H : (slices_partitionEqualOrdered_uint64.l0 k3 (y310.set (x10_3 : Int).toNat (rd x0_1 x9_14)) a1 (wrap64 (x9_14 + 1)) (wrap64 (x10_3 - 1))) = some (r1,r2) := by first|(rw [hy310];with_reducible exact H)|(have H2_ := (Option.bind_some _ _).symm.trans H;rw [hy310];with_reducible exact H2_)|(have H2_ := (Option.bind_some _ _).symm.trans H;with_reducible exact H2_)|with_reducible exact H|(rw [hy310];exact H)|exact H
                 have Ny310 := am hy310
                 clear hy310
                 obtain ⟨y311,hy311⟩ : ∃ y_ : List Int,y_ = (y310.set (x10_3 : Int).toNat (rd x0_1 x9_14)) := ⟨_,rfl⟩
                 replace H : (slices_partitionEqualOrdered_uint64.l0 k3 y311 a1 (wrap64 (x9_14 + 1)) (wrap64 (x10_3 - 1))) = some (r1,r2) := by first|(rw [hy311];with_reducible exact H)|(have H2_ := (Option.bind_some _ _).symm.trans H;rw [hy311];with_reducible exact H2_)|(have H2_ := (Option.bind_some _ _).symm.trans H;with_reducible exact H2_)|with_reducible exact H|(rw [hy311];exact H)|exact H
                 have Ny311 := am hy311
                 clear hy311
                 have H' := am H
                 clear H
                 try go_wp2
                 have n0_ := am (Kd.R_drew HO_0.out)
                 have n1_ := am (Kept.drew HK.out)
                 have n2_ := am (below_drew1 HB.out)
                 clear HO_0
                 clear HK
                 clear HB
                 have HO_0 := n0_
                 have HK := n1_
                 have HB := n2_
                 clear n0_ n1_ n2_
                 refine start_ (n := 14) (S := fun w' => True) (ds := []) (bz 14 0) (by kernel_rfl) rfl rfl trivial (fun hHeld => ?_);refine with_tabW slices_partitionEqualOrdered_uint64.tab5 slices_partitionEqualOrdered_uint64.bits5 (fun HT_ HW_ => ?_)
                 generalize wr.drew = w52 at HO_0 HK HB hHeld ⊢
                 refine pk 0 46 (bz 14 1) HT_ ?_
                 refine pk 1 47 (bz 14 3) HT_ ?_
                 refine pk 2 48 (bz 14 7) HT_ ?_
                 refine pk 3 49 (bz 14 15) HT_ ?_
                 refine pz 4 50 (bz 14 31) HT_ ?_
                 refine pz 5 51 (bz 14 63) HT_ ?_
                 refine pz 6 52 (bz 14 127) HT_ ?_
                 refine pz 7 53 (bz 14 255) HT_ ?_
                 refine pz 8 54 (bz 14 511) HT_ ?_
                 refine pz 9 55 (bz 14 1023) HT_ ?_
                 refine pz 10 56 (bz 14 2047) HT_ ?_
                 refine pz 11 57 (bz 14 4095) HT_ ?_
                 refine pz 12 58 (bz 14 8191) HT_ ?_
                 refine pk 13 59 (bz 14 16383) HT_ ?_
                 refine done_ (done_of HT_.out (by kernel_rfl)) ?_
                 try go_wp2
                 have n0_ := am (Kd.R_drew HO_0.out)
                 have n1_ := am (Kept.drew HK.out)
                 have n2_ := am (below_drew1 HB.out)
                 clear HO_0
                 clear HK
                 clear HB
                 have HO_0 := n0_
                 have HK := n1_
                 have HB := n2_
                 clear n0_ n1_ n2_
                 have p308 : 0 ≤ (x10_3 : Int) := od
                 have q308 : x10_3 < (x0_1.length : Int) := od
                 obtain ⟨ad308,e308,hx308_0⟩ := Kd.at_int (Kd.R_reads' HO_0.out).2.2 x10_3 p308 q308
                 obtain rfl : (⟨go9,0,none⟩ : Addr) = ad308 := (by injection e308)
                 (first|simp only [add_plain] at hx308_0|simp only [add_at] at hx308_0|simp only [Addr.add,Nat.zero_add] at hx308_0|skip)
                 replace p308 := eq_true p308
                 replace q308 := eq_true q308
                 have p309 : 0 ≤ (x9_14 : Int) := od
                 have q309 : x9_14 < (x0_1.length : Int) := od
                 obtain ⟨ad309,e309,hx309_0⟩ := Kd.at_int (Kd.R_reads' HO_0.out).2.2 x9_14 p309 q309
                 obtain rfl : (⟨go9,0,none⟩ : Addr) = ad309 := (by injection e309)
                 (first|simp only [add_plain] at hx309_0|simp only [add_at] at hx309_0|simp only [Addr.add,Nat.zero_add] at hx309_0|skip)
                 replace p309 := eq_true p309
                 replace q309 := eq_true q309
                 have p50 : 0 ≤ (x9_14 : Int) := od
                 have q50 : (x9_14 : Int) < ((x0_1.length : Int) : Int) := od
                 obtain ⟨hx50_0,hf50_0⟩ := Kd.R_celln 0 HO_0.out (x9_14 : Int) p50 q50
                 replace p50 := eq_true p50
                 replace q50 := eq_true q50
                 have HP54 := Kd.R_putn HO_0.out (x9_14 : Int) (rd x0_1 x10_3)
                 rw [← Ny310.out] at HP54
                 have HQ54 := am HP54
                 clear HP54
                 have p51 : 0 ≤ (x10_3 : Int) := od
                 have q51 : (x10_3 : Int) < ((x0_1.length : Int) : Int) := od
                 obtain ⟨hx51_0,hf51_0⟩ := Kd.R_celln 0 HQ54.out (x10_3 : Int) p51 q51
                 replace p51 := eq_true p51
                 replace q51 := eq_true q51
                 have HP55 := Kd.R_putn HQ54.out (x10_3 : Int) (rd x0_1 x9_14)
                 rw [← Ny311.out] at HP55
                 have HQ55 := am HP55
                 clear HP55
                 refine start_ (n := 16) (S := fun w' => w'.cell? ⟨go9,(x10_3).toNat,none⟩ = some (.int .u64 (rd x0_1 x10_3)) ∧ w'.cell? ⟨go9,(x9_14).toNat,none⟩ = some (.int .u64 (rd x0_1 x9_14))) (ds := [13,15]) (bz 16 0) (by kernel_rfl) rfl rfl ⟨hx308_0,hx309_0⟩ (fun hHeld => ?_);refine with_tabW slices_partitionEqualOrdered_uint64.tab8 slices_partitionEqualOrdered_uint64.bits8 (fun HT_ HW_ => ?_)
                 generalize w52.drew = w53 at HO_0 HK HB HQ54 HQ55 hf50_0 hf51_0 hx308_0 hx309_0 hx50_0 hx51_0 hHeld ⊢
                 refine pk 0 65 (bz 16 1) HT_ ?_
                 refine pk 1 66 (bz 16 3) HT_ ?_
                 refine pk 2 67 (bz 16 7) HT_ ?_
                 refine pk 3 68 (bz 16 15) HT_ ?_
                 refine pk 4 69 (bz 16 31) HT_ ?_
                 refine pk 5 70 (bz 16 63) HT_ ?_
                 refine pk 6 71 (bz 16 127) HT_ ?_
                 refine pk 8 73 (bz 16 383) HT_ ?_
                 refine pk 9 74 (bz 16 895) HT_ ?_
                 refine pk 10 75 (bz 16 1919) HT_ ?_
                 refine tk 7 72 (bz 16 2047) HT_ HW_ hHeld ?_
                 refine tk 11 76 (bz 16 4095) HT_ HW_ hHeld ?_
                 refine pk 12 77 (bz 16 8191) HT_ ?_
                 refine last_ (i := 13) (N := none) (bz 16 16383) rfl rfl (one_of HT_.out (by kernel_rfl)) (by decide) (fun K hK => ?_)
                 refine skip_ (w1 := ?_) (by rfl) rfl ?_ ?_
                 rotate_left
                 ·go_simp
                  rfl
                 refine hK.out _ _ ?_
                 clear hK K
                 refine pk 14 78 (bz 16 32767) HT_ ?_
                 refine last_ (i := 15) (N := none) (bz 16 65535) rfl rfl (one_of HT_.out (by kernel_rfl)) (by decide) (fun K hK => ?_)
                 refine skip_ (w1 := ?_) (by rfl) rfl ?_ ?_
                 rotate_left
                 ·go_simp
                  rfl
                 refine hK.out _ _ ?_
                 clear hK K
                 refine done_ (done_of HT_.out (by kernel_rfl)) ?_
                 try go_wp2
                 (try simp only [← hl0_1])
                 go_roundg k3
                 case measure => have := HK1.out;have := HJ14.out;have := HK3.out;omega
                 case rel => exact ⟨(y311),(wrap64 (x9_14 + 1)),(wrap64 (x10_3 - 1)),(by first|rfl|(simp;done)|(simp [*];done)),(by first|rfl|(simp;done)|(simp [*];done)),H',⟨by have := HK1.out;have := HJ14.out;have := HK3.out;omega⟩,⟨by (try simp only [hl0_1]);(with_reducible repeat (first|apply Kd.R_alloc|apply Kd.R_drewN|apply Kd.R_drew));exact HQ55.out⟩,⟨by repeat (first|(with_reducible first|exact HK.out|apply Kept.alloc|apply Kept.drewN|apply Kept.drew|refine Kept.setCell ?_ HMgo9.out _|refine Kept.setCell ?_ HMgo9.out _)|exact HK.out)⟩,⟨by repeat (first|(with_reducible first|exact HB.out|apply below_alloc|apply pw_below_drewN|apply below_drew1|refine below_set ?_ GB9.out|refine below_set ?_ GB9.out)|exact HB.out)⟩⟩
                ·rw [if_neg c49] at H
                 exact absurd H (by simp)
               ·rw [if_neg c48] at H
                exact absurd H (by simp)
              ·rw [if_neg c47] at H
               exact absurd H (by simp)
             ·rw [if_neg c46] at H
              exact absurd H (by simp)
    ·rw [if_neg c8] at H
     exact absurd H (by simp)
   ·rw [if_neg c7] at H
    exact absurd H (by simp)
  ·rw [if_neg c6] at H
   exact absurd H (by simp)
 ·rw [if_neg c5] at H
  exact absurd H (by simp)
end Go.Proofs.Ytmdoaijkaaaglaa.Pr
end
