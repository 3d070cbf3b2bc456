/- Part 4 of the proof's texts, joined in build order. -/
import Derived.Test.YtjnkkfdlcbcelaaZISL1
import Derived.Sort.AssemblyPlain
import Derived.Test.YtjnkkfdlcbcelaaZISL2
import Derived.Test.YtjnkkfdlcbcelaaZISL3
import Derived.Lib.Hide
import Derived.Lib.SliceRun
import Derived.Sort.LotD5
import Derived.Laws.Bits64
import Derived.Sort.Row
import Derived.RegionTactic
set_option linter.unusedVariables false
set_option linter.unusedSimpArgs false
section
namespace Go.Proofs.Ytjnkkfdlcbcelaa.Pr
open Go.RowKit Go.Proofs.YtjnkkfdlcbcelaaW.PrintWords Go.Proofs.YtjnkkfdlcbcelaaW.PrintLast Go.Proofs.YtjnkkfdlcbcelaaW.PrintMore
attribute [local go_sem] max2_int min2_int max_two min_two max_three min_three max_four min_four
open Go.Proofs.Ytjnkkfdlcbcelaa.Hw
mutual
def slices_siftDownOrdered_uint64.l0 : Nat → List Int → Int → Int → Int → Option (List Int)
 | 0,_,_,_,_ => none
 | k + 1,x0,x2,x3,x8 => if (wrap64 ((wrap64 (2 * x8)) + 1)) ≥ x2 then (some x0) else (if (wrap64 ((wrap64 ((wrap64 (2 * x8)) + 1)) + 1)) < x2 then (if 0 ≤ (wrap64 (x3 + (wrap64 ((wrap64 (2 * x8)) + 1)))) then (if (wrap64 (x3 + (wrap64 ((wrap64 (2 * x8)) + 1)))) < (x0.length : Int) then (if 0 ≤ (wrap64 ((wrap64 (x3 + (wrap64 ((wrap64 (2 * x8)) + 1)))) + 1)) then (if (wrap64 ((wrap64 (x3 + (wrap64 ((wrap64 (2 * x8)) + 1)))) + 1)) < (x0.length : Int) then ((cmp_Less_uint64.f (rd x0 (wrap64 (x3 + (wrap64 ((wrap64 (2 * x8)) + 1))))) (rd x0 (wrap64 ((wrap64 (x3 + (wrap64 ((wrap64 (2 * x8)) + 1)))) + 1)))).bind fun t168 => (slices_siftDownOrdered_uint64.j1 k x0 x2 x3 x8 (wrap64 ((wrap64 (2 * x8)) + 1)) t168)) else (none)) else (none)) else (none)) else (none)) else (slices_siftDownOrdered_uint64.j1 k x0 x2 x3 x8 (wrap64 ((wrap64 (2 * x8)) + 1)) false))
def slices_siftDownOrdered_uint64.j1 : Nat → List Int → Int → Int → Int → Int → Bool → Option (List Int)
 | 0,_,_,_,_,_,_ => none
 | k + 1,x0,x2,x3,x8,x9,x36 => if x36 = true then (if 0 ≤ (wrap64 (x3 + x8)) then (if (wrap64 (x3 + x8)) < (x0.length : Int) then (if 0 ≤ (wrap64 (x3 + (wrap64 (x9 + 1)))) then (if (wrap64 (x3 + (wrap64 (x9 + 1)))) < (x0.length : Int) then ((cmp_Less_uint64.f (rd x0 (wrap64 (x3 + x8))) (rd x0 (wrap64 (x3 + (wrap64 (x9 + 1)))))).bind fun t171 => (if t171 = true then (slices_siftDownOrdered_uint64.l0 k ((x0.set ((wrap64 (x3 + x8)) : Int).toNat (rd x0 (wrap64 (x3 + (wrap64 (x9 + 1)))))).set ((wrap64 (x3 + (wrap64 (x9 + 1)))) : Int).toNat (rd x0 (wrap64 (x3 + x8)))) x2 x3 (wrap64 (x9 + 1))) else (some x0))) else (none)) else (none)) else (none)) else (none)) else (if 0 ≤ (wrap64 (x3 + x8)) then (if (wrap64 (x3 + x8)) < (x0.length : Int) then (if 0 ≤ (wrap64 (x3 + x9)) then (if (wrap64 (x3 + x9)) < (x0.length : Int) then ((cmp_Less_uint64.f (rd x0 (wrap64 (x3 + x8))) (rd x0 (wrap64 (x3 + x9)))).bind fun t178 => (if t178 = true then (slices_siftDownOrdered_uint64.l0 k ((x0.set ((wrap64 (x3 + x8)) : Int).toNat (rd x0 (wrap64 (x3 + x9)))).set ((wrap64 (x3 + x9)) : Int).toNat (rd x0 (wrap64 (x3 + x8)))) x2 x3 x9) else (some x0))) else (none)) else (none)) else (none)) else (none))
end
def slices_siftDownOrdered_uint64.f (k : Nat) (l0 : List Int) (a1 : Int) (a2 : Int) (a3 : Int) : Option (List Int) := slices_siftDownOrdered_uint64.l0 k l0 a2 a3 a1
def slices_siftDownOrdered_uint64.T3 : Bool × List (List Nat × List Nat) := (true,[([],[]),([0],[0]),([],[]),([1,2],[1,2]),([3],[3]),([4],[4]),([4],[4]),([4],[4]),([6,7,4],[4,6,7]),([5,8,4],[4,5,8]),([9,4],[4,9]),([4],[4]),([4],[4]),([4],[4]),([12,13,4],[4,12,13]),([14,4],[4,14]),([11,15,4],[4,11,15]),([16,4],[4,16]),([10,17,4,4],[4,10,17]),([4,18],[4,18])])
def slices_siftDownOrdered_uint64.B3 : List Nat := [0,1,0,7,15,31,31,31,223,511,1023,31,31,31,12319,28703,63519,129055,262143,524287]
theorem slices_siftDownOrdered_uint64.tab3 : rtab .any (opsOf Try.f93 3) = slices_siftDownOrdered_uint64.T3 := by kernel_rfl
theorem slices_siftDownOrdered_uint64.bits3 : waitsOk slices_siftDownOrdered_uint64.T3.2 slices_siftDownOrdered_uint64.B3 = true := by kernel_rfl
def slices_siftDownOrdered_uint64.T5 : Bool × List (List Nat × List Nat) := (true,[([],[]),([],[]),([],[]),([1,2],[1,2]),([0,3],[0,3]),([4],[4]),([],[]),([],[]),([],[]),([7,8],[7,8]),([6,9],[6,9]),([10],[10]),([5,11],[5,11]),([12],[12])])
def slices_siftDownOrdered_uint64.B5 : List Nat := [0,0,0,6,15,31,0,0,0,384,960,1984,4095,8191]
theorem slices_siftDownOrdered_uint64.tab5 : rtab .any (opsOf Try.f93 5) = slices_siftDownOrdered_uint64.T5 := by kernel_rfl
theorem slices_siftDownOrdered_uint64.bits5 : waitsOk slices_siftDownOrdered_uint64.T5.2 slices_siftDownOrdered_uint64.B5 = true := by kernel_rfl
def slices_siftDownOrdered_uint64.T6 : Bool × List (List Nat × List Nat) := (true,[([],[]),([],[]),([],[]),([1,2],[1,2]),([],[]),([],[]),([],[]),([5,6],[5,6]),([],[]),([],[]),([],[]),([9,10],[9,10]),([8,11],[8,11]),([12],[12]),([],[]),([],[]),([],[]),([15,16],[15,16]),([14,17],[14,17]),([18],[18]),([0,3,0,1,2,3,8,9,10,11,12,13,19],[0,3]),([20,13,0,1,2,3,8,9,10,11,12,13,19],[13,20]),([4,7,0,1,2,3,4,5,6,7,8,9,10,11,12,13,14,15,16,17,18,19,20,21],[4,7]),([22,19,21,0,1,2,3,4,5,6,7,8,9,10,11,12,13,14,15,16,17,18,19,20,21],[19,22])])
def slices_siftDownOrdered_uint64.B6 : List Nat := [0,0,0,6,0,0,0,96,0,0,0,1536,3840,7936,0,0,0,98304,245760,507904,1048335,2096911,4194303,8388607]
theorem slices_siftDownOrdered_uint64.tab6 : rtab .any (opsOf Try.f93 6) = slices_siftDownOrdered_uint64.T6 := by kernel_rfl
theorem slices_siftDownOrdered_uint64.bits6 : waitsOk slices_siftDownOrdered_uint64.T6.2 slices_siftDownOrdered_uint64.B6 = true := by kernel_rfl
set_option maxHeartbeats 8000000 in
set_option maxRecDepth 100000 in
theorem slices_siftDownOrdered_uint64.calls (k : Nat) (P0_ : Nat → Prop) (u9000_ : Value) (l0 : List Int) (a1 : Int) (a2 : Int) (a3 : Int) (r : List Int) (w0 w : World) (hB : Below w0.heap.size w0 w) (ho0 : Kd.R (Kd.int .u64) 22 w w0.heap.size P0_ u9000_ l0) (h : slices_siftDownOrdered_uint64.f k l0 a1 a2 a3 = some r) :
  Calls Try.prog 93 #[u9000_,.int .i64 a1,.int .i64 a2,.int .i64 a3] w fun e w' => e = .returned (.tuple #[]) ∧ Kd.R (Kd.int .u64) 22 w' w0.heap.size (fun k_ => (P0_ k_ ∨ w.heap.size ≤ k_)) u9000_ r ∧ Below w0.heap.size w0 w' ∧ Kept w w' (fun k_ => P0_ k_) := by
 have HO0 := am (show Kd.R (Kd.int .u64) 22 w w0.heap.size (fun k_ => (P0_ k_ ∨ w.heap.size ≤ k_)) u9000_ l0 from Kd.R_mono ho0 (fun k_ hk => (.inl hk)))
 have HK := am (Kept.refl w (fun k_ => P0_ k_))
 have HW0 := am hB.size
 have HB := am hB
 clear hB
 have H : (slices_siftDownOrdered_uint64.l0 k l0 a2 a3 a1) = some r := h
 clear h
 have H' := am H
 clear H
 go_enter Try.func93,Try.ntmps93
 go_wp2
 go_loopg [8] k (fun kq v8 w' => ∃ (x0_1 : List Int) (x8_1 : Int),v8 = .int .i64 x8_1 ∧ Aside0 (slices_siftDownOrdered_uint64.l0 kq x0_1 a2 a3 x8_1 = some r) ∧ Aside0 (kq ≤ k) ∧ Aside0 (Kd.R (Kd.int .u64) 22 w' w0.heap.size (fun k_ => (P0_ k_ ∨ w.heap.size ≤ k_)) u9000_ x0_1) ∧ Aside0 (Kept w w' (fun k_ => P0_ k_)) ∧ Aside0 (Below w0.heap.size w0 w'))
 case atStart => exact ⟨(l0),(a1),(by first|rfl|(simp;done)|(simp [*];done)),H',⟨Nat.le_refl _⟩,⟨by (with_reducible repeat (first|apply Kd.R_alloc|apply Kd.R_drewN|apply Kd.R_drew));exact HO0.out⟩,⟨by repeat (first|(with_reducible first|exact HK.out|apply Kept.alloc|apply Kept.drewN|apply Kept.drew)|exact HK.out)⟩,⟨bb HB⟩⟩
 case round =>
  clear H'
  try clear p2
  obtain ⟨x0_1,x8_1,rfl,HA,HK1,HO_0,HK,HB⟩ := hrel
  cases gk with
  | zero => exact absurd HA.out (by simp [slices_siftDownOrdered_uint64.l0])
  | succ k1 =>
   have H := HA.out
   clear HA
   simp only [slices_siftDownOrdered_uint64.l0] at H
   by_cases c5 : (wrap64 ((wrap64 (2 * x8_1)) + 1)) ≥ a2
   ·rw [if_pos c5] at H
    have c5b0 : decide (a2 ≤ (wrap64 ((wrap64 (2 * x8_1)) + 1))) = true := decide_eq_true c5
    clear c5
    obtain rfl := Option.some.inj H
    go_wp2
    first|go_end0|((try simp only [Exit.inBlock,Exit.then]);refine bodyPost_ret (results_none rfl _ _ _) rfl ?_)
    exact ⟨by first|rfl|(simp [errW_none,errW_some] <;> rfl)|(simp [*,errW_none,errW_some] <;> rfl),by (with_reducible repeat (first|apply Kd.R_alloc|apply Kd.R_drewN|apply Kd.R_drew));exact HO_0.out,by repeat (first|(with_reducible first|exact HB.out|apply below_alloc|apply pw_below_drewN|apply below_drew1)|exact HB.out),by repeat (first|(with_reducible first|exact HK.out|apply Kept.alloc|apply Kept.drewN|apply Kept.drew)|exact HK.out)⟩
   ·rw [if_neg c5] at H
    have c5b0 : decide (a2 ≤ (wrap64 ((wrap64 (2 * x8_1)) + 1))) = false := decide_eq_false c5
    clear c5
    have HC6 := am H
    clear H
    go_upto_region 3 with (fail)
    go_cut [36] (fun v36 wc => ∃ (kq : Nat) (x36_5 : Bool),v36 = .bool x36_5 ∧ Aside0 (slices_siftDownOrdered_uint64.j1 kq x0_1 a2 a3 x8_1 (wrap64 ((wrap64 (2 * x8_1)) + 1)) x36_5 = some r) ∧ Aside0 (kq ≤ k1) ∧ Aside0 (Kd.R (Kd.int .u64) 22 wc w0.heap.size (fun k_ => (P0_ k_ ∨ w.heap.size ≤ k_)) u9000_ x0_1) ∧ Aside0 (Kept w wc (fun k_ => P0_ k_)) ∧ Aside0 (Below w0.heap.size w0 wc))
    case first =>
     have H := HC6.out
     clear HC6
     by_cases c7 : (wrap64 ((wrap64 ((wrap64 (2 * x8_1)) + 1)) + 1)) < a2
     ·rw [if_pos c7] at H
      have c7b0 : decide ((wrap64 ((wrap64 ((wrap64 (2 * x8_1)) + 1)) + 1)) < a2) = true := decide_eq_true c7
      clear c7
      (first|rw [c7b0]|(simp only [i64_w,i32_w];rw [c7b0])|skip)
      obtain ⟨ji8,hji8⟩ : ∃ j_ : Int,(wrap64 (a3 + (wrap64 ((wrap64 (2 * x8_1)) + 1)))) = j_ := ⟨_,rfl⟩
      first|rw [hji8] at H|simp only [hji8] at H
      have hji8w : (IntKind.i64.wrap (a3 + (wrap64 ((wrap64 (2 * x8_1)) + 1)))) = ji8 := (i64_w _).trans hji8
      by_cases c9 : 0 ≤ (ji8)
      ·rw [if_pos c9] at H
       have c9b0 : decide (0 ≤ (ji8)) = true := decide_eq_true c9
       clear c9
       by_cases c10 : (ji8) < (x0_1.length : Int)
       ·rw [if_pos c10] at H
        have c10b0 : decide ((ji8) < (x0_1.length : Int)) = true := decide_eq_true c10
        clear c10
        obtain ⟨ji11,hji11⟩ : ∃ j_ : Int,(wrap64 ((ji8) + 1)) = j_ := ⟨_,rfl⟩
        first|rw [hji11] at H|simp only [hji11] at H
        have hji11w : (IntKind.i64.wrap ((ji8) + 1)) = ji11 := (i64_w _).trans hji11
        by_cases c12 : 0 ≤ (ji11)
        ·rw [if_pos c12] at H
         have c12b0 : decide (0 ≤ (ji11)) = true := decide_eq_true c12
         clear c12
         by_cases c13 : (ji11) < (x0_1.length : Int)
         ·rw [if_pos c13] at H
          have c13b0 : decide ((ji11) < (x0_1.length : Int)) = true := decide_eq_true c13
          clear c13
          replace H := Option.bind_eq_some_iff.mp H
          obtain ⟨t168,A140,H⟩ := H
          try dsimp only at H
          have A14 := am A140
          clear A140
          have H' := am H
          clear H
          try go_wp2
          have n0_ := am (Kd.R_drew HO_0.out)
          have n1_ := am (Kept.drew HK.out)
          have n2_ := am (below_drew1 HB.out)
          clear HO_0
          clear HK
          clear HB
          have HO_0 := n0_
          have HK := n1_
          have HB := n2_
          clear n0_ n1_ n2_
          obtain ⟨Ao16,co16,eo16⟩ := Kd.R_slice HO_0.out
          (first|subst eo16|(injection eo16 with f1_ f2_ f3_;have f4_ := f1_.symm;have f5_ := f3_.symm;clear f1_ f2_ f3_;subst f4_;subst f5_))
          have p166 : 0 ≤ ((ji8) : Int) := od
          have q166 : (ji8) < (x0_1.length : Int) := od
          obtain ⟨ad166,e166,hx166_0⟩ := Kd.at_int (Kd.R_reads' HO_0.out).2.2 (ji8) p166 q166
          cases e166
          replace p166 := eq_true p166
          replace q166 := eq_true q166
          have p167 : 0 ≤ ((ji11) : Int) := od
          have q167 : (ji11) < (x0_1.length : Int) := od
          obtain ⟨ad167,e167,hx167_0⟩ := Kd.at_int (Kd.R_reads' HO_0.out).2.2 (ji11) p167 q167
          obtain rfl : ad166 = ad167 := (by injection e167)
          replace p167 := eq_true p167
          replace q167 := eq_true q167
          refine start_ (n := 20) (S := fun w' => w'.cell? (ad166.add ((ji8)).toNat) = some (.int .u64 (rd x0_1 (ji8))) ∧ w'.cell? (ad166.add ((ji11)).toNat) = some (.int .u64 (rd x0_1 (ji11)))) (ds := []) (bz 20 0) (by kernel_rfl) rfl rfl ⟨hx166_0,hx167_0⟩ (fun hHeld => ?_);refine with_tabW slices_siftDownOrdered_uint64.tab3 slices_siftDownOrdered_uint64.bits3 (fun HT_ HW_ => ?_)
          generalize wr.drew = w15 at HO_0 HK HB hx166_0 hx167_0 hHeld ⊢
          refine pk 0 17 (bz 20 1) HT_ ?_
          refine pk 1 18 (bz 20 3) HT_ ?_
          refine pk 2 19 (bz 20 7) HT_ ?_
          refine pk 3 20 (bz 20 15) HT_ ?_
          refine pk 4 21 (bz 20 31) HT_ ?_
          refine pk 5 22 (bz 20 63) HT_ ?_
          refine pk 6 23 (bz 20 127) HT_ ?_
          refine pk 7 24 (bz 20 255) HT_ ?_
          refine pk 8 25 (bz 20 511) HT_ ?_
          refine pk 9 26 (bz 20 1023) HT_ ?_
          refine pk 11 28 (bz 20 3071) HT_ ?_
          refine pk 12 29 (bz 20 7167) HT_ ?_
          refine pk 13 30 (bz 20 15359) HT_ ?_
          refine pk 14 31 (bz 20 31743) HT_ ?_
          refine pk 15 32 (bz 20 64511) HT_ ?_
          refine pk 16 33 (bz 20 130047) HT_ ?_
          refine tk 10 27 (bz 20 131071) HT_ HW_ hHeld ?_
          refine tk 17 34 (bz 20 262143) HT_ HW_ hHeld ?_
          refine on 18 35 (bz 20 524287) HT_ (fun K hK => ?_)
          refine goes_ Try.func89 (by kernel_rfl) rfl #[.int .u64 (rd x0_1 (ji8)),.int .u64 (rd x0_1 (ji11))] (by rfl) rfl rfl (by (try simp only [List.map_toArray,List.map_cons,List.map_nil]);first|done|(simp only [hji11,hji8];rfl)|rfl|(simp only [List.length_drop,List.length_take];rfl)) ?_
          with_reducible refine (cmp_Less_uint64.calls (rd x0_1 (ji8)) (rd x0_1 (ji11)) t168 _ A14.out).mono ?_
          rintro e w' ⟨rfl,⟨nd,rfl⟩⟩
          refine ⟨_,rfl,?_⟩
          refine hK.out _ _ ⟨hHeld.1,hHeld.2⟩ (fun hHeld => ?_)
          clear hK K
          refine nm 35 ?_
          refine pk 19 36 (bz 20 1048575) HT_ ?_
          refine done_ (done_of HT_.out (by kernel_rfl)) ?_
          try go_wp2
          go_meet
          case rel => exact ⟨_,(t168),(by first|rfl|(simp;done)|(simp [*];done)),H',⟨by have := HK1.out;first|omega|exact Nat.le_refl _⟩,⟨by (with_reducible repeat (first|apply Kd.R_alloc|apply Kd.R_drewN|apply Kd.R_drew));exact HO_0.out⟩,⟨by repeat (first|(with_reducible first|exact HK.out|apply Kept.alloc|apply Kept.drewN|apply Kept.drew)|exact HK.out)⟩,⟨bb HB⟩⟩
         ·rw [if_neg c13] at H
          exact absurd H (by simp)
        ·rw [if_neg c12] at H
         exact absurd H (by simp)
       ·rw [if_neg c10] at H
        exact absurd H (by simp)
      ·rw [if_neg c9] at H
       exact absurd H (by simp)
     ·rw [if_neg c7] at H
      have c7b0 : decide ((wrap64 ((wrap64 ((wrap64 (2 * x8_1)) + 1)) + 1)) < a2) = false := decide_eq_false c7
      clear c7
      (first|rw [c7b0]|(simp only [i64_w,i32_w];rw [c7b0])|skip)
      have H' := am H
      clear H
      try go_wp2
      have n0_ := am (Kd.R_drew HO_0.out)
      have n1_ := am (Kept.drew HK.out)
      have n2_ := am (below_drew1 HB.out)
      clear HO_0
      clear HK
      clear HB
      have HO_0 := n0_
      have HK := n1_
      have HB := n2_
      clear n0_ n1_ n2_
      refine start_ (n := 20) (S := fun w' => True) (ds := []) (bz 20 0) (by kernel_rfl) rfl rfl trivial (fun hHeld => ?_);refine with_tabW slices_siftDownOrdered_uint64.tab3 slices_siftDownOrdered_uint64.bits3 (fun HT_ HW_ => ?_)
      generalize wr.drew = w17 at HO_0 HK HB hHeld ⊢
      refine pk 0 17 (bz 20 1) HT_ ?_
      refine pk 1 18 (bz 20 3) HT_ ?_
      refine pk 2 19 (bz 20 7) HT_ ?_
      refine pk 3 20 (bz 20 15) HT_ ?_
      refine pk 4 21 (bz 20 31) HT_ ?_
      refine pz 5 22 (bz 20 63) HT_ ?_
      refine pz 6 23 (bz 20 127) HT_ ?_
      refine pz 7 24 (bz 20 255) HT_ ?_
      refine pz 8 25 (bz 20 511) HT_ ?_
      refine pz 9 26 (bz 20 1023) HT_ ?_
      refine pz 10 27 (bz 20 2047) HT_ ?_
      refine pz 11 28 (bz 20 4095) HT_ ?_
      refine pz 12 29 (bz 20 8191) HT_ ?_
      refine pz 13 30 (bz 20 16383) HT_ ?_
      refine pz 14 31 (bz 20 32767) HT_ ?_
      refine pz 15 32 (bz 20 65535) HT_ ?_
      refine pz 16 33 (bz 20 131071) HT_ ?_
      refine pz 17 34 (bz 20 262143) HT_ ?_
      refine pz 18 35 (bz 20 524287) HT_ ?_
      refine pk 19 36 (bz 20 1048575) HT_ ?_
      refine done_ (done_of HT_.out (by kernel_rfl)) ?_
      try go_wp2
      go_meet
      case rel => exact ⟨_,(false),(by first|rfl|(simp;done)|(simp [*];done)),H',⟨by have := HK1.out;first|omega|exact Nat.le_refl _⟩,⟨by (with_reducible repeat (first|apply Kd.R_alloc|apply Kd.R_drewN|apply Kd.R_drew));exact HO_0.out⟩,⟨by repeat (first|(with_reducible first|exact HK.out|apply Kept.alloc|apply Kept.drewN|apply Kept.drew)|exact HK.out)⟩,⟨bb HB⟩⟩
    case rest =>
     clear HC6
     try clear c1
     try clear p1
     try clear q1
     try clear hx1
     try clear p2
     try clear c5
     try clear c5b0
     try clear p6
     try clear c7
     try clear c7b0
     try clear c8
     try clear c9
     try clear c9b0
     try clear c10
     try clear c10b0
     try clear c12
     try clear c12b0
     try clear c13
     try clear c13b0
     try clear p16
     try clear q16
     try clear hx16
     try clear hx166_0
     try clear hx167_0
     try clear p166
     try clear p167
     try clear p2
     try clear q166
     try clear q167
     obtain ⟨kq,x36_5,rfl,HA,HJ5,HO_0,HK,HB⟩ := hcut
     cases kq with
     | zero => exact absurd HA.out (by simp [slices_siftDownOrdered_uint64.j1])
     | succ kj5 =>
      have H := HA.out
      clear HA
      simp only [slices_siftDownOrdered_uint64.j1] at H
      by_cases c18 : x36_5 = true
      ·subst c18
       rw [if_pos rfl] at H
       obtain ⟨ji19,hji19⟩ : ∃ j_ : Int,(wrap64 (a3 + x8_1)) = j_ := ⟨_,rfl⟩
       first|rw [hji19] at H|simp only [hji19] at H
       have hji19w : (IntKind.i64.wrap (a3 + x8_1)) = ji19 := (i64_w _).trans hji19
       by_cases c20 : 0 ≤ (ji19)
       ·rw [if_pos c20] at H
        have c20b0 : decide (0 ≤ (ji19)) = true := decide_eq_true c20
        clear c20
        by_cases c21 : (ji19) < (x0_1.length : Int)
        ·rw [if_pos c21] at H
         have c21b0 : decide ((ji19) < (x0_1.length : Int)) = true := decide_eq_true c21
         clear c21
         obtain ⟨ji22,hji22⟩ : ∃ j_ : Int,(wrap64 (a3 + (wrap64 ((wrap64 ((wrap64 (2 * x8_1)) + 1)) + 1)))) = j_ := ⟨_,rfl⟩
         first|rw [hji22] at H|simp only [hji22] at H
         have hji22w : (IntKind.i64.wrap (a3 + (wrap64 ((wrap64 ((wrap64 (2 * x8_1)) + 1)) + 1)))) = ji22 := (i64_w _).trans hji22
         by_cases c23 : 0 ≤ (ji22)
         ·rw [if_pos c23] at H
          have c23b0 : decide (0 ≤ (ji22)) = true := decide_eq_true c23
          clear c23
          by_cases c24 : (ji22) < (x0_1.length : Int)
          ·rw [if_pos c24] at H
           have c24b0 : decide ((ji22) < (x0_1.length : Int)) = true := decide_eq_true c24
           clear c24
           replace H := Option.bind_eq_some_iff.mp H
           obtain ⟨t171,A250,H⟩ := H
           try dsimp only at H
           have A25 := am A250
           clear A250
           by_cases c26 : t171 = true
           ·subst c26
            rw [if_pos rfl] at H
            obtain ⟨y174,hy174⟩ : ∃ y_ : List Int,y_ = (x0_1.set ((ji19) : Int).toNat (rd x0_1 (ji22))) := ⟨_,rfl⟩
            replace H : (slices_siftDownOrdered_uint64.l0 kj5 (y174.set ((ji22) : Int).toNat (rd x0_1 (ji19))) a2 a3 (wrap64 ((wrap64 ((wrap64 (2 * x8_1)) + 1)) + 1))) = some r := by first|(rw [hy174];with_reducible exact H)|(have H2_ := (Option.bind_some _ _).symm.trans H;rw [hy174];with_reducible exact H2_)|(have H2_ := (Option.bind_some _ _).symm.trans H;with_reducible exact H2_)|with_reducible exact H|(rw [hy174];exact H)|exact H
            have Ny174 := am hy174
            clear hy174
            obtain ⟨y175,hy175⟩ : ∃ y_ : List Int,y_ = (y174.set ((ji22) : Int).toNat (rd x0_1 (ji19))) := ⟨_,rfl⟩
            replace H : (slices_siftDownOrdered_uint64.l0 kj5 y175 a2 a3 (wrap64 ((wrap64 ((wrap64 (2 * x8_1)) + 1)) + 1))) = some r := by first|(rw [hy175];with_reducible exact H)|(have H2_ := (Option.bind_some _ _).symm.trans H;rw [hy175];with_reducible exact H2_)|(have H2_ := (Option.bind_some _ _).symm.trans H;with_reducible exact H2_)|with_reducible exact H|(rw [hy175];exact H)|exact H
            have Ny175 := am hy175
            clear hy175
            have H' := am H
            clear H
            try go_wp2
            have n0_ := am (Kd.R_drew HO_0.out)
            have n1_ := am (Kept.drew HK.out)
            have n2_ := am (below_drew1 HB.out)
            clear HO_0
            clear HK
            clear HB
            have HO_0 := n0_
            have HK := n1_
            have HB := n2_
            clear n0_ n1_ n2_
            obtain ⟨Ao30,co30,eo30⟩ := Kd.R_slice HO_0.out
            (first|subst eo30|(injection eo30 with f1_ f2_ f3_;have f4_ := f1_.symm;have f5_ := f3_.symm;clear f1_ f2_ f3_;subst f4_;subst f5_))
            have p169 : 0 ≤ ((ji19) : Int) := od
            have q169 : (ji19) < (x0_1.length : Int) := od
            obtain ⟨ad169,e169,hx169_0⟩ := Kd.at_int (Kd.R_reads' HO_0.out).2.2 (ji19) p169 q169
            cases e169
            replace p169 := eq_true p169
            replace q169 := eq_true q169
            have p170 : 0 ≤ ((ji22) : Int) := od
            have q170 : (ji22) < (x0_1.length : Int) := od
            obtain ⟨ad170,e170,hx170_0⟩ := Kd.at_int (Kd.R_reads' HO_0.out).2.2 (ji22) p170 q170
            obtain rfl : ad169 = ad170 := (by injection e170)
            replace p170 := eq_true p170
            replace q170 := eq_true q170
            refine start_ (n := 14) (S := fun w' => w'.cell? (ad169.add ((ji19)).toNat) = some (.int .u64 (rd x0_1 (ji19))) ∧ w'.cell? (ad169.add ((ji22)).toNat) = some (.int .u64 (rd x0_1 (ji22)))) (ds := []) (bz 14 0) (by kernel_rfl) rfl rfl ⟨hx169_0,hx170_0⟩ (fun hHeld => ?_);refine with_tabW slices_siftDownOrdered_uint64.tab5 slices_siftDownOrdered_uint64.bits5 (fun HT_ HW_ => ?_)
            generalize wc.drew = w29 at HO_0 HK HB hx169_0 hx170_0 hHeld ⊢
            refine pk 0 39 (bz 14 1) HT_ ?_
            refine pk 1 40 (bz 14 3) HT_ ?_
            refine pk 2 41 (bz 14 7) HT_ ?_
            refine pk 3 42 (bz 14 15) HT_ ?_
            refine pk 4 43 (bz 14 31) HT_ ?_
            refine pk 6 45 (bz 14 95) HT_ ?_
            refine pk 7 46 (bz 14 223) HT_ ?_
            refine pk 8 47 (bz 14 479) HT_ ?_
            refine pk 9 48 (bz 14 991) HT_ ?_
            refine pk 10 49 (bz 14 2015) HT_ ?_
            refine tk 5 44 (bz 14 2047) HT_ HW_ hHeld ?_
            refine tk 11 50 (bz 14 4095) HT_ HW_ hHeld ?_
            refine on 12 51 (bz 14 8191) HT_ (fun K hK => ?_)
            refine goes_ Try.func89 (by kernel_rfl) rfl #[.int .u64 (rd x0_1 (ji19)),.int .u64 (rd x0_1 (ji22))] (by rfl) rfl rfl (by (try simp only [List.map_toArray,List.map_cons,List.map_nil]);first|done|(simp only [hji19,hji22];rfl)|rfl|(simp only [List.length_drop,List.length_take];rfl)) ?_
            with_reducible refine (cmp_Less_uint64.calls (rd x0_1 (ji19)) (rd x0_1 (ji22)) true _ A25.out).mono ?_
            rintro e w' ⟨rfl,⟨nd,rfl⟩⟩
            refine ⟨_,rfl,?_⟩
            refine hK.out _ _ ⟨hHeld.1,hHeld.2⟩ (fun hHeld => ?_)
            clear hK K
            refine nm 51 ?_
            refine pk 13 52 (bz 14 16383) HT_ ?_
            refine done_ (done_of HT_.out (by kernel_rfl)) ?_
            try go_wp2
            (try (rw [drewN_self w29];generalize hq_ : World.drewN w29 _ = w29;have n0_ : Aside0 (Kd.R (Kd.int .u64) 22 w29 w0.heap.size (fun k_ => (P0_ k_ ∨ w.heap.size ≤ k_)) (.slice (some ad169) x0_1.length co30) x0_1) := ⟨by rw [← hq_];exact (rr HO_0)⟩;have n1_ : Aside0 (Kept w w29 (fun k_ => P0_ k_)) := ⟨by rw [← hq_];exact (by repeat (first|(with_reducible first|exact HK.out|apply Kept.alloc|apply Kept.drewN|apply Kept.drew)|exact HK.out))⟩;have n2_ : Aside0 (Below w0.heap.size w0 w29) := ⟨by rw [← hq_];exact (bb HB)⟩;clear HO_0 HK HB hq_;have HO_0 := n0_;have HK := n1_;have HB := n2_;clear n0_ n1_ n2_))
            have n0_ := am (Kd.R_drew HO_0.out)
            have n1_ := am (Kept.drew HK.out)
            have n2_ := am (below_drew1 HB.out)
            clear HO_0
            clear HK
            clear HB
            have HO_0 := n0_
            have HK := n1_
            have HB := n2_
            clear n0_ n1_ n2_
            have p172 : 0 ≤ ((ji22) : Int) := od
            have q172 : (ji22) < (x0_1.length : Int) := od
            obtain ⟨ad172,e172,hx172_0⟩ := Kd.at_int (Kd.R_reads' HO_0.out).2.2 (ji22) p172 q172
            obtain rfl : ad169 = ad172 := (by injection e172)
            replace p172 := eq_true p172
            replace q172 := eq_true q172
            have p173 : 0 ≤ ((ji19) : Int) := od
            have q173 : (ji19) < (x0_1.length : Int) := od
            obtain ⟨ad173,e173,hx173_0⟩ := Kd.at_int (Kd.R_reads' HO_0.out).2.2 (ji19) p173 q173
            obtain rfl : ad169 = ad173 := (by injection e173)
            replace p173 := eq_true p173
            replace q173 := eq_true q173
            have p27 : 0 ≤ ((ji19) : Int) := od
            have q27 : ((ji19) : Int) < ((x0_1.length : Int) : Int) := od
            obtain ⟨go27,co27,eo27,gb27,gl27,cl27,HG27⟩ := Kd.R_form HO_0.out (by omega)
            (first|cases eo27|(injection eo27 with ea_ en_ ec_;(first|subst ea_|(injection ea_ with ea_;subst ea_));subst ec_;clear en_))
            have GB27 := am gb27
            have GG27 := am HG27
            clear gb27 gl27 HG27
            have HMgo27 := am (show (P0_ go27 ∨ w.heap.size ≤ go27) from (HO_0.out.1 _ rfl))
            (first|simp only [add_plain] at hx169_0|skip)
            (first|simp only [add_plain] at hx170_0|skip)
            (first|simp only [add_plain] at hx172_0|skip)
            (first|simp only [add_plain] at hx173_0|skip)
            obtain ⟨hx27_0,hf27_0⟩ := Kd.R_celln 0 HO_0.out ((ji19) : Int) p27 q27
            replace p27 := eq_true p27
            replace q27 := eq_true q27
            have HP32 := Kd.R_putn HO_0.out ((ji19) : Int) (rd x0_1 (ji22))
            rw [← Ny174.out] at HP32
            have HQ32 := am HP32
            clear HP32
            have p28 : 0 ≤ ((ji22) : Int) := od
            have q28 : ((ji22) : Int) < ((x0_1.length : Int) : Int) := od
            obtain ⟨hx28_0,hf28_0⟩ := Kd.R_celln 0 HQ32.out ((ji22) : Int) p28 q28
            replace p28 := eq_true p28
            replace q28 := eq_true q28
            have HP33 := Kd.R_putn HQ32.out ((ji22) : Int) (rd x0_1 (ji19))
            rw [← Ny175.out] at HP33
            have HQ33 := am HP33
            clear HP33
            refine start_ (n := 24) (S := fun w' => w'.cell? ⟨go27,((ji22)).toNat,none⟩ = some (.int .u64 (rd x0_1 (ji22))) ∧ w'.cell? ⟨go27,((ji19)).toNat,none⟩ = some (.int .u64 (rd x0_1 (ji19)))) (ds := [21,23]) (bz 24 0) (by kernel_rfl) rfl rfl ⟨hx172_0,hx173_0⟩ (fun hHeld => ?_);refine with_tabW slices_siftDownOrdered_uint64.tab6 slices_siftDownOrdered_uint64.bits6 (fun HT_ HW_ => ?_)
            generalize w29.drew = w31 at HO_0 HK HB GG27 HQ32 HQ33 hf27_0 hf28_0 hx169_0 hx170_0 hx172_0 hx173_0 hx27_0 hx28_0 hHeld ⊢
            refine pk 0 53 (bz 24 1) HT_ ?_
            refine pk 1 54 (bz 24 3) HT_ ?_
            refine pk 2 55 (bz 24 7) HT_ ?_
            refine pk 3 56 (bz 24 15) HT_ ?_
            refine pk 4 57 (bz 24 31) HT_ ?_
            refine pk 5 58 (bz 24 63) HT_ ?_
            refine pk 6 59 (bz 24 127) HT_ ?_
            refine pk 7 60 (bz 24 255) HT_ ?_
            refine pk 8 61 (bz 24 511) HT_ ?_
            refine pk 9 62 (bz 24 1023) HT_ ?_
            refine pk 10 63 (bz 24 2047) HT_ ?_
            refine pk 11 64 (bz 24 4095) HT_ ?_
            refine pk 12 65 (bz 24 8191) HT_ ?_
            refine pk 14 67 (bz 24 24575) HT_ ?_
            refine pk 15 68 (bz 24 57343) HT_ ?_
            refine pk 16 69 (bz 24 122879) HT_ ?_
            refine pk 17 70 (bz 24 253951) HT_ ?_
            refine pk 18 71 (bz 24 516095) HT_ ?_
            refine tk 13 66 (bz 24 524287) HT_ HW_ hHeld ?_
            refine tk 19 72 (bz 24 1048575) HT_ HW_ hHeld ?_
            refine pk 20 73 (bz 24 2097151) HT_ ?_
            refine last_ (i := 21) (N := none) (bz 24 4194303) rfl rfl (one_of HT_.out (by kernel_rfl)) (by decide) (fun K hK => ?_)
            refine skip_ (w1 := ?_) (by rfl) rfl ?_ ?_
            rotate_left
            ·go_simp
             rfl
            refine hK.out _ _ ?_
            clear hK K
            refine pk 22 74 (bz 24 8388607) HT_ ?_
            refine last_ (i := 23) (N := none) (bz 24 16777215) rfl rfl (one_of HT_.out (by kernel_rfl)) (by decide) (fun K hK => ?_)
            refine skip_ (w1 := ?_) (by rfl) rfl ?_ ?_
            rotate_left
            ·go_simp
             rfl
            refine hK.out _ _ ?_
            clear hK K
            refine done_ (done_of HT_.out (by kernel_rfl)) ?_
            try go_wp2
            go_roundg kj5
            case measure => have := HK1.out;have := HJ5.out;omega
            case rel => exact ⟨(y175),(wrap64 ((wrap64 ((wrap64 (2 * x8_1)) + 1)) + 1)),(by first|rfl|(simp;done)|(simp [*];done)),H',⟨by have := HK1.out;have := HJ5.out;omega⟩,⟨by (with_reducible repeat (first|apply Kd.R_alloc|apply Kd.R_drewN|apply Kd.R_drew));exact HQ33.out⟩,⟨by repeat (first|(with_reducible first|exact HK.out|apply Kept.alloc|apply Kept.drewN|apply Kept.drew|refine Kept.setCell ?_ HMgo27.out _|refine Kept.setCell ?_ HMgo27.out _)|exact HK.out)⟩,⟨by repeat (first|(with_reducible first|exact HB.out|apply below_alloc|apply pw_below_drewN|apply below_drew1|refine below_set ?_ GB27.out|refine below_set ?_ GB27.out)|exact HB.out)⟩⟩
           ·replace c26 := Bool.eq_false_iff.mpr c26
            subst c26
            rw [if_neg (show ¬ (false = true) by decide)] at H
            obtain rfl := Option.some.inj H
            try go_wp2
            have n0_ := am (Kd.R_drew HO_0.out)
            have n1_ := am (Kept.drew HK.out)
            have n2_ := am (below_drew1 HB.out)
            clear HO_0
            clear HK
            clear HB
            have HO_0 := n0_
            have HK := n1_
            have HB := n2_
            clear n0_ n1_ n2_
            obtain ⟨Ao35,co35,eo35⟩ := Kd.R_slice HO_0.out
            (first|subst eo35|(injection eo35 with f1_ f2_ f3_;have f4_ := f1_.symm;have f5_ := f3_.symm;clear f1_ f2_ f3_;subst f4_;subst f5_))
            have p169 : 0 ≤ ((ji19) : Int) := od
            have q169 : (ji19) < (x0_1.length : Int) := od
            obtain ⟨ad169,e169,hx169_0⟩ := Kd.at_int (Kd.R_reads' HO_0.out).2.2 (ji19) p169 q169
            cases e169
            replace p169 := eq_true p169
            replace q169 := eq_true q169
            have p170 : 0 ≤ ((ji22) : Int) := od
            have q170 : (ji22) < (x0_1.length : Int) := od
            obtain ⟨ad170,e170,hx170_0⟩ := Kd.at_int (Kd.R_reads' HO_0.out).2.2 (ji22) p170 q170
            obtain rfl : ad169 = ad170 := (by injection e170)
            replace p170 := eq_true p170
            replace q170 := eq_true q170
            refine start_ (n := 14) (S := fun w' => w'.cell? (ad169.add ((ji19)).toNat) = some (.int .u64 (rd x0_1 (ji19))) ∧ w'.cell? (ad169.add ((ji22)).toNat) = some (.int .u64 (rd x0_1 (ji22)))) (ds := []) (bz 14 0) (by kernel_rfl) rfl rfl ⟨hx169_0,hx170_0⟩ (fun hHeld => ?_);refine with_tabW slices_siftDownOrdered_uint64.tab5 slices_siftDownOrdered_uint64.bits5 (fun HT_ HW_ => ?_)
            generalize wc.drew = w34 at HO_0 HK HB hx169_0 hx170_0 hHeld ⊢
            refine pk 0 39 (bz 14 1) HT_ ?_
            refine pk 1 40 (bz 14 3) HT_ ?_
            refine pk 2 41 (bz 14 7) HT_ ?_
            refine pk 3 42 (bz 14 15) HT_ ?_
            refine pk 4 43 (bz 14 31) HT_ ?_
            refine pk 6 45 (bz 14 95) HT_ ?_
            refine pk 7 46 (bz 14 223) HT_ ?_
            refine pk 8 47 (bz 14 479) HT_ ?_
            refine pk 9 48 (bz 14 991) HT_ ?_
            refine pk 10 49 (bz 14 2015) HT_ ?_
            refine tk 5 44 (bz 14 2047) HT_ HW_ hHeld ?_
            refine tk 11 50 (bz 14 4095) HT_ HW_ hHeld ?_
            refine on 12 51 (bz 14 8191) HT_ (fun K hK => ?_)
            refine goes_ Try.func89 (by kernel_rfl) rfl #[.int .u64 (rd x0_1 (ji19)),.int .u64 (rd x0_1 (ji22))] (by rfl) rfl rfl (by (try simp only [List.map_toArray,List.map_cons,List.map_nil]);first|done|(simp only [hji19,hji22];rfl)|rfl|(simp only [List.length_drop,List.length_take];rfl)) ?_
            with_reducible refine (cmp_Less_uint64.calls (rd x0_1 (ji19)) (rd x0_1 (ji22)) false _ A25.out).mono ?_
            rintro e w' ⟨rfl,⟨nd,rfl⟩⟩
            refine ⟨_,rfl,?_⟩
            refine hK.out _ _ ⟨hHeld.1,hHeld.2⟩ (fun hHeld => ?_)
            clear hK K
            refine nm 51 ?_
            refine pk 13 52 (bz 14 16383) HT_ ?_
            refine done_ (done_of HT_.out (by kernel_rfl)) ?_
            try go_wp2
            first|go_end0|((try simp only [Exit.inBlock,Exit.then]);refine bodyPost_ret (results_none rfl _ _ _) rfl ?_)
            exact ⟨by first|rfl|(simp [errW_none,errW_some] <;> rfl)|(simp only [← hji19,← hji22];first|rfl|(simp [errW_none,errW_some] <;> rfl))|(simp [*,errW_none,errW_some] <;> rfl),by (with_reducible repeat (first|apply Kd.R_alloc|apply Kd.R_drewN|apply Kd.R_drew));exact HO_0.out,by repeat (first|(with_reducible first|exact HB.out|apply below_alloc|apply pw_below_drewN|apply below_drew1)|exact HB.out),by repeat (first|(with_reducible first|exact HK.out|apply Kept.alloc|apply Kept.drewN|apply Kept.drew)|exact HK.out)⟩
          ·rw [if_neg c24] at H
           exact absurd H (by simp)
         ·rw [if_neg c23] at H
          exact absurd H (by simp)
        ·rw [if_neg c21] at H
         exact absurd H (by simp)
       ·rw [if_neg c20] at H
        exact absurd H (by simp)
      ·replace c18 := Bool.eq_false_iff.mpr c18
       subst c18
       rw [if_neg (show ¬ (false = true) by decide)] at H
       obtain ⟨ji36,hji36⟩ : ∃ j_ : Int,(wrap64 (a3 + x8_1)) = j_ := ⟨_,rfl⟩
       first|rw [hji36] at H|simp only [hji36] at H
       have hji36w : (IntKind.i64.wrap (a3 + x8_1)) = ji36 := (i64_w _).trans hji36
       by_cases c37 : 0 ≤ (ji36)
       ·rw [if_pos c37] at H
        have c37b0 : decide (0 ≤ (ji36)) = true := decide_eq_true c37
        clear c37
        by_cases c38 : (ji36) < (x0_1.length : Int)
        ·rw [if_pos c38] at H
         have c38b0 : decide ((ji36) < (x0_1.length : Int)) = true := decide_eq_true c38
         clear c38
         obtain ⟨ji39,hji39⟩ : ∃ j_ : Int,(wrap64 (a3 + (wrap64 ((wrap64 (2 * x8_1)) + 1)))) = j_ := ⟨_,rfl⟩
         first|rw [hji39] at H|simp only [hji39] at H
         have hji39w : (IntKind.i64.wrap (a3 + (wrap64 ((wrap64 (2 * x8_1)) + 1)))) = ji39 := (i64_w _).trans hji39
         by_cases c40 : 0 ≤ (ji39)
         ·rw [if_pos c40] at H
          have c40b0 : decide (0 ≤ (ji39)) = true := decide_eq_true c40
          clear c40
          by_cases c41 : (ji39) < (x0_1.length : Int)
          ·rw [if_pos c41] at H
           have c41b0 : decide ((ji39) < (x0_1.length : Int)) = true := decide_eq_true c41
           clear c41
           replace H := Option.bind_eq_some_iff.mp H
           obtain ⟨t178,A420,H⟩ := H
           try dsimp only at H
           have A42 := am A420
           clear A420
           by_cases c43 : t178 = true
           ·subst c43
            rw [if_pos rfl] at H
            obtain ⟨y181,hy181⟩ : ∃ y_ : List Int,y_ = (x0_1.set ((ji36) : Int).toNat (rd x0_1 (ji39))) := ⟨_,rfl⟩
            replace H : (slices_siftDownOrdered_uint64.l0 kj5 (y181.set ((ji39) : Int).toNat (rd x0_1 (ji36))) a2 a3 (wrap64 ((wrap64 (2 * x8_1)) + 1))) = some r := by first|(rw [hy181];with_reducible exact H)|(have H2_ := (Option.bind_some _ _).symm.trans H;rw [hy181];with_reducible exact H2_)|(have H2_ := (Option.bind_some _ _).symm.trans H;with_reducible exact H2_)|with_reducible exact H|(rw [hy181];exact H)|exact H
            have Ny181 := am hy181
            clear hy181
            obtain ⟨y182,hy182⟩ : ∃ y_ : List Int,y_ = (y181.set ((ji39) : Int).toNat (rd x0_1 (ji36))) := ⟨_,rfl⟩
            replace H : (slices_siftDownOrdered_uint64.l0 kj5 y182 a2 a3 (wrap64 ((wrap64 (2 * x8_1)) + 1))) = some r := by first|(rw [hy182];with_reducible exact H)|(have H2_ := (Option.bind_some _ _).symm.trans H;rw [hy182];with_reducible exact H2_)|(have H2_ := (Option.bind_some _ _).symm.trans H;with_reducible exact H2_)|with_reducible exact H|(rw [hy182];exact H)|exact H
            have Ny182 := am hy182
            clear hy182
            have H' := am H
            clear H
            try go_wp2
            have n0_ := am (Kd.R_drew HO_0.out)
            have n1_ := am (Kept.drew HK.out)
            have n2_ := am (below_drew1 HB.out)
            clear HO_0
            clear HK
            clear HB
            have HO_0 := n0_
            have HK := n1_
            have HB := n2_
            clear n0_ n1_ n2_
            obtain ⟨Ao47,co47,eo47⟩ := Kd.R_slice HO_0.out
            (first|subst eo47|(injection eo47 with f1_ f2_ f3_;have f4_ := f1_.symm;have f5_ := f3_.symm;clear f1_ f2_ f3_;subst f4_;subst f5_))
            have p176 : 0 ≤ ((ji36) : Int) := od
            have q176 : (ji36) < (x0_1.length : Int) := od
            obtain ⟨ad176,e176,hx176_0⟩ := Kd.at_int (Kd.R_reads' HO_0.out).2.2 (ji36) p176 q176
            cases e176
            replace p176 := eq_true p176
            replace q176 := eq_true q176
            have p177 : 0 ≤ ((ji39) : Int) := od
            have q177 : (ji39) < (x0_1.length : Int) := od
            obtain ⟨ad177,e177,hx177_0⟩ := Kd.at_int (Kd.R_reads' HO_0.out).2.2 (ji39) p177 q177
            obtain rfl : ad176 = ad177 := (by injection e177)
            replace p177 := eq_true p177
            replace q177 := eq_true q177
            refine start_ (n := 14) (S := fun w' => w'.cell? (ad176.add ((ji36)).toNat) = some (.int .u64 (rd x0_1 (ji36))) ∧ w'.cell? (ad176.add ((ji39)).toNat) = some (.int .u64 (rd x0_1 (ji39)))) (ds := []) (bz 14 0) (by kernel_rfl) rfl rfl ⟨hx176_0,hx177_0⟩ (fun hHeld => ?_);refine with_tabW slices_siftDownOrdered_uint64.tab5 slices_siftDownOrdered_uint64.bits5 (fun HT_ HW_ => ?_)
            generalize wc.drew = w46 at HO_0 HK HB hx176_0 hx177_0 hHeld ⊢
            refine pk 0 39 (bz 14 1) HT_ ?_
            refine pk 1 40 (bz 14 3) HT_ ?_
            refine pk 2 41 (bz 14 7) HT_ ?_
            refine pk 3 42 (bz 14 15) HT_ ?_
            refine pk 4 43 (bz 14 31) HT_ ?_
            refine pk 6 45 (bz 14 95) HT_ ?_
            refine pk 7 46 (bz 14 223) HT_ ?_
            refine pk 8 47 (bz 14 479) HT_ ?_
            refine pk 9 48 (bz 14 991) HT_ ?_
            refine pk 10 49 (bz 14 2015) HT_ ?_
            refine tk 5 44 (bz 14 2047) HT_ HW_ hHeld ?_
            refine tk 11 50 (bz 14 4095) HT_ HW_ hHeld ?_
            refine on 12 51 (bz 14 8191) HT_ (fun K hK => ?_)
            refine goes_ Try.func89 (by kernel_rfl) rfl #[.int .u64 (rd x0_1 (ji36)),.int .u64 (rd x0_1 (ji39))] (by rfl) rfl rfl (by (try simp only [List.map_toArray,List.map_cons,List.map_nil]);first|done|(simp only [hji36,hji39];rfl)|rfl|(simp only [List.length_drop,List.length_take];rfl)) ?_
            with_reducible refine (cmp_Less_uint64.calls (rd x0_1 (ji36)) (rd x0_1 (ji39)) true _ A42.out).mono ?_
            rintro e w' ⟨rfl,⟨nd,rfl⟩⟩
            refine ⟨_,rfl,?_⟩
            refine hK.out _ _ ⟨hHeld.1,hHeld.2⟩ (fun hHeld => ?_)
            clear hK K
            refine nm 51 ?_
            refine pk 13 52 (bz 14 16383) HT_ ?_
            refine done_ (done_of HT_.out (by kernel_rfl)) ?_
            try go_wp2
            (try (rw [drewN_self w46];generalize hq_ : World.drewN w46 _ = w46;have n0_ : Aside0 (Kd.R (Kd.int .u64) 22 w46 w0.heap.size (fun k_ => (P0_ k_ ∨ w.heap.size ≤ k_)) (.slice (some ad176) x0_1.length co47) x0_1) := ⟨by rw [← hq_];exact (rr HO_0)⟩;have n1_ : Aside0 (Kept w w46 (fun k_ => P0_ k_)) := ⟨by rw [← hq_];exact (by repeat (first|(with_reducible first|exact HK.out|apply Kept.alloc|apply Kept.drewN|apply Kept.drew)|exact HK.out))⟩;have n2_ : Aside0 (Below w0.heap.size w0 w46) := ⟨by rw [← hq_];exact (bb HB)⟩;clear HO_0 HK HB hq_;have HO_0 := n0_;have HK := n1_;have HB := n2_;clear n0_ n1_ n2_))
            have n0_ := am (Kd.R_drew HO_0.out)
            have n1_ := am (Kept.drew HK.out)
            have n2_ := am (below_drew1 HB.out)
            clear HO_0
            clear HK
            clear HB
            have HO_0 := n0_
            have HK := n1_
            have HB := n2_
            clear n0_ n1_ n2_
            have p179 : 0 ≤ ((ji39) : Int) := od
            have q179 : (ji39) < (x0_1.length : Int) := od
            obtain ⟨ad179,e179,hx179_0⟩ := Kd.at_int (Kd.R_reads' HO_0.out).2.2 (ji39) p179 q179
            obtain rfl : ad176 = ad179 := (by injection e179)
            replace p179 := eq_true p179
            replace q179 := eq_true q179
            have p180 : 0 ≤ ((ji36) : Int) := od
            have q180 : (ji36) < (x0_1.length : Int) := od
            obtain ⟨ad180,e180,hx180_0⟩ := Kd.at_int (Kd.R_reads' HO_0.out).2.2 (ji36) p180 q180
            obtain rfl : ad176 = ad180 := (by injection e180)
            replace p180 := eq_true p180
            replace q180 := eq_true q180
            have p44 : 0 ≤ ((ji36) : Int) := od
            have q44 : ((ji36) : Int) < ((x0_1.length : Int) : Int) := od
            obtain ⟨go44,co44,eo44,gb44,gl44,cl44,HG44⟩ := Kd.R_form HO_0.out (by omega)
            (first|cases eo44|(injection eo44 with ea_ en_ ec_;(first|subst ea_|(injection ea_ with ea_;subst ea_));subst ec_;clear en_))
            have GB44 := am gb44
            have GG44 := am HG44
            clear gb44 gl44 HG44
            have HMgo44 := am (show (P0_ go44 ∨ w.heap.size ≤ go44) from (HO_0.out.1 _ rfl))
            (first|simp only [add_plain] at hx176_0|skip)
            (first|simp only [add_plain] at hx177_0|skip)
            (first|simp only [add_plain] at hx179_0|skip)
            (first|simp only [add_plain] at hx180_0|skip)
            obtain ⟨hx44_0,hf44_0⟩ := Kd.R_celln 0 HO_0.out ((ji36) : Int) p44 q44
            replace p44 := eq_true p44
            replace q44 := eq_true q44
            have HP49 := Kd.R_putn HO_0.out ((ji36) : Int) (rd x0_1 (ji39))
            rw [← Ny181.out] at HP49
            have HQ49 := am HP49
            clear HP49
            have p45 : 0 ≤ ((ji39) : Int) := od
            have q45 : ((ji39) : Int) < ((x0_1.length : Int) : Int) := od
            obtain ⟨hx45_0,hf45_0⟩ := Kd.R_celln 0 HQ49.out ((ji39) : Int) p45 q45
            replace p45 := eq_true p45
            replace q45 := eq_true q45
            have HP50 := Kd.R_putn HQ49.out ((ji39) : Int) (rd x0_1 (ji36))
            rw [← Ny182.out] at HP50
            have HQ50 := am HP50
            clear HP50
            refine start_ (n := 24) (S := fun w' => w'.cell? ⟨go44,((ji39)).toNat,none⟩ = some (.int .u64 (rd x0_1 (ji39))) ∧ w'.cell? ⟨go44,((ji36)).toNat,none⟩ = some (.int .u64 (rd x0_1 (ji36)))) (ds := [21,23]) (bz 24 0) (by kernel_rfl) rfl rfl ⟨hx179_0,hx180_0⟩ (fun hHeld => ?_);refine with_tabW slices_siftDownOrdered_uint64.tab6 slices_siftDownOrdered_uint64.bits6 (fun HT_ HW_ => ?_)
            generalize w46.drew = w48 at HO_0 HK HB GG44 HQ49 HQ50 hf44_0 hf45_0 hx176_0 hx177_0 hx179_0 hx180_0 hx44_0 hx45_0 hHeld ⊢
            refine pk 0 53 (bz 24 1) HT_ ?_
            refine pk 1 54 (bz 24 3) HT_ ?_
            refine pk 2 55 (bz 24 7) HT_ ?_
            refine pk 3 56 (bz 24 15) HT_ ?_
            refine pk 4 57 (bz 24 31) HT_ ?_
            refine pk 5 58 (bz 24 63) HT_ ?_
            refine pk 6 59 (bz 24 127) HT_ ?_
            refine pk 7 60 (bz 24 255) HT_ ?_
            refine pk 8 61 (bz 24 511) HT_ ?_
            refine pk 9 62 (bz 24 1023) HT_ ?_
            refine pk 10 63 (bz 24 2047) HT_ ?_
            refine pk 11 64 (bz 24 4095) HT_ ?_
            refine pk 12 65 (bz 24 8191) HT_ ?_
            refine pk 14 67 (bz 24 24575) HT_ ?_
            refine pk 15 68 (bz 24 57343) HT_ ?_
            refine pk 16 69 (bz 24 122879) HT_ ?_
            refine pk 17 70 (bz 24 253951) HT_ ?_
            refine pk 18 71 (bz 24 516095) HT_ ?_
            refine tk 13 66 (bz 24 524287) HT_ HW_ hHeld ?_
            refine tk 19 72 (bz 24 1048575) HT_ HW_ hHeld ?_
            refine pk 20 73 (bz 24 2097151) HT_ ?_
            refine last_ (i := 21) (N := none) (bz 24 4194303) rfl rfl (one_of HT_.out (by kernel_rfl)) (by decide) (fun K hK => ?_)
            refine skip_ (w1 := ?_) (by rfl) rfl ?_ ?_
            rotate_left
            ·go_simp
             rfl
            refine hK.out _ _ ?_
            clear hK K
            refine pk 22 74 (bz 24 8388607) HT_ ?_
            refine last_ (i := 23) (N := none) (bz 24 16777215) rfl rfl (one_of HT_.out (by kernel_rfl)) (by decide) (fun K hK => ?_)
            refine skip_ (w1 := ?_) (by rfl) rfl ?_ ?_
            rotate_left
            ·go_simp
             rfl
            refine hK.out _ _ ?_
            clear hK K
            refine done_ (done_of HT_.out (by kernel_rfl)) ?_
            try go_wp2
            go_roundg kj5
            case measure => have := HK1.out;have := HJ5.out;omega
            case rel => exact ⟨(y182),((wrap64 ((wrap64 (2 * x8_1)) + 1))),(by first|rfl|(simp;done)|(simp [*];done)),H',⟨by have := HK1.out;have := HJ5.out;omega⟩,⟨by (with_reducible repeat (first|apply Kd.R_alloc|apply Kd.R_drewN|apply Kd.R_drew));exact HQ50.out⟩,⟨by repeat (first|(with_reducible first|exact HK.out|apply Kept.alloc|apply Kept.drewN|apply Kept.drew|refine Kept.setCell ?_ HMgo44.out _|refine Kept.setCell ?_ HMgo44.out _)|exact HK.out)⟩,⟨by repeat (first|(with_reducible first|exact HB.out|apply below_alloc|apply pw_below_drewN|apply below_drew1|refine below_set ?_ GB44.out|refine below_set ?_ GB44.out)|exact HB.out)⟩⟩
           ·replace c43 := Bool.eq_false_iff.mpr c43
            subst c43
            rw [if_neg (show ¬ (false = true) by decide)] at H
            obtain rfl := Option.some.inj H
            try go_wp2
            have n0_ := am (Kd.R_drew HO_0.out)
            have n1_ := am (Kept.drew HK.out)
            have n2_ := am (below_drew1 HB.out)
            clear HO_0
            clear HK
            clear HB
            have HO_0 := n0_
            have HK := n1_
            have HB := n2_
            clear n0_ n1_ n2_
            obtain ⟨Ao52,co52,eo52⟩ := Kd.R_slice HO_0.out
            (first|subst eo52|(injection eo52 with f1_ f2_ f3_;have f4_ := f1_.symm;have f5_ := f3_.symm;clear f1_ f2_ f3_;subst f4_;subst f5_))
            have p176 : 0 ≤ ((ji36) : Int) := od
            have q176 : (ji36) < (x0_1.length : Int) := od
            obtain ⟨ad176,e176,hx176_0⟩ := Kd.at_int (Kd.R_reads' HO_0.out).2.2 (ji36) p176 q176
            cases e176
            replace p176 := eq_true p176
            replace q176 := eq_true q176
            have p177 : 0 ≤ ((ji39) : Int) := od
            have q177 : (ji39) < (x0_1.length : Int) := od
            obtain ⟨ad177,e177,hx177_0⟩ := Kd.at_int (Kd.R_reads' HO_0.out).2.2 (ji39) p177 q177
            obtain rfl : ad176 = ad177 := (by injection e177)
            replace p177 := eq_true p177
            replace q177 := eq_true q177
            refine start_ (n := 14) (S := fun w' => w'.cell? (ad176.add ((ji36)).toNat) = some (.int .u64 (rd x0_1 (ji36))) ∧ w'.cell? (ad176.add ((ji39)).toNat) = some (.int .u64 (rd x0_1 (ji39)))) (ds := []) (bz 14 0) (by kernel_rfl) rfl rfl ⟨hx176_0,hx177_0⟩ (fun hHeld => ?_);refine with_tabW slices_siftDownOrdered_uint64.tab5 slices_siftDownOrdered_uint64.bits5 (fun HT_ HW_ => ?_)
            generalize wc.drew = w51 at HO_0 HK HB hx176_0 hx177_0 hHeld ⊢
            refine pk 0 39 (bz 14 1) HT_ ?_
            refine pk 1 40 (bz 14 3) HT_ ?_
            refine pk 2 41 (bz 14 7) HT_ ?_
            refine pk 3 42 (bz 14 15) HT_ ?_
            refine pk 4 43 (bz 14 31) HT_ ?_
            refine pk 6 45 (bz 14 95) HT_ ?_
            refine pk 7 46 (bz 14 223) HT_ ?_
            refine pk 8 47 (bz 14 479) HT_ ?_
            refine pk 9 48 (bz 14 991) HT_ ?_
            refine pk 10 49 (bz 14 2015) HT_ ?_
            refine tk 5 44 (bz 14 2047) HT_ HW_ hHeld ?_
            refine tk 11 50 (bz 14 4095) HT_ HW_ hHeld ?_
            refine on 12 51 (bz 14 8191) HT_ (fun K hK => ?_)
            refine goes_ Try.func89 (by kernel_rfl) rfl #[.int .u64 (rd x0_1 (ji36)),.int .u64 (rd x0_1 (ji39))] (by rfl) rfl rfl (by (try simp only [List.map_toArray,List.map_cons,List.map_nil]);first|done|(simp only [hji36,hji39];rfl)|rfl|(simp only [List.length_drop,List.length_take];rfl)) ?_
            with_reducible refine (cmp_Less_uint64.calls (rd x0_1 (ji36)) (rd x0_1 (ji39)) false _ A42.out).mono ?_
            rintro e w' ⟨rfl,⟨nd,rfl⟩⟩
            refine ⟨_,rfl,?_⟩
            refine hK.out _ _ ⟨hHeld.1,hHeld.2⟩ (fun hHeld => ?_)
            clear hK K
            refine nm 51 ?_
            refine pk 13 52 (bz 14 16383) HT_ ?_
            refine done_ (done_of HT_.out (by kernel_rfl)) ?_
            try go_wp2
            first|go_end0|((try simp only [Exit.inBlock,Exit.then]);refine bodyPost_ret (results_none rfl _ _ _) rfl ?_)
            exact ⟨by first|rfl|(simp [errW_none,errW_some] <;> rfl)|(simp only [← hji36,← hji39];first|rfl|(simp [errW_none,errW_some] <;> rfl))|(simp [*,errW_none,errW_some] <;> rfl),by (with_reducible repeat (first|apply Kd.R_alloc|apply Kd.R_drewN|apply Kd.R_drew));exact HO_0.out,by repeat (first|(with_reducible first|exact HB.out|apply below_alloc|apply pw_below_drewN|apply below_drew1)|exact HB.out),by repeat (first|(with_reducible first|exact HK.out|apply Kept.alloc|apply Kept.drewN|apply Kept.drew)|exact HK.out)⟩
          ·rw [if_neg c41] at H
           exact absurd H (by simp)
         ·rw [if_neg c40] at H
          exact absurd H (by simp)
        ·rw [if_neg c38] at H
         exact absurd H (by simp)
       ·rw [if_neg c37] at H
        exact absurd H (by simp)
mutual
def slices_heapSortOrdered_uint64.l0 : Nat → List Int → Int → Int → Int → Int → Option (List Int)
 | 0,_,_,_,_,_ => none
 | k + 1,x0,x6,x7,x8,x9 => if x9 ≥ 0 then ((slices_siftDownOrdered_uint64.f k x0 x9 x8 x6).bind fun t183 => (slices_heapSortOrdered_uint64.l0 k t183 x6 x7 x8 (wrap64 (x9 - 1)))) else (slices_heapSortOrdered_uint64.l1 k x0 x6 x7 (wrap64 (x8 - 1)))
def slices_heapSortOrdered_uint64.l1 : Nat → List Int → Int → Int → Int → Option (List Int)
 | 0,_,_,_,_ => none
 | k + 1,x0,x6,x7,x10 => if x10 ≥ 0 then (if 0 ≤ (wrap64 (x6 + x10)) then (if (wrap64 (x6 + x10)) < (x0.length : Int) then (if 0 ≤ x6 then (if x6 < (x0.length : Int) then ((slices_siftDownOrdered_uint64.f k ((x0.set (x6 : Int).toNat (rd x0 (wrap64 (x6 + x10)))).set ((wrap64 (x6 + x10)) : Int).toNat (rd x0 x6)) x7 x10 x6).bind fun t188 => (slices_heapSortOrdered_uint64.l1 k t188 x6 x7 (wrap64 (x10 - 1)))) else (none)) else (none)) else (none)) else (none)) else (some x0)
end
def slices_heapSortOrdered_uint64.f (k : Nat) (l0 : List Int) (a1 : Int) (a2 : Int) : Option (List Int) := slices_heapSortOrdered_uint64.l0 k l0 a1 0 (wrap64 (a2 - a1)) (wrap64 (Int.tdiv (wrap64 ((wrap64 (a2 - a1)) - 1)) 2))
def slices_heapSortOrdered_uint64.T10 : Bool × List (List Nat × List Nat) := (true,[([],[]),([],[]),([],[]),([],[]),([],[]),([3,4],[3,4]),([],[]),([],[]),([],[]),([7,8],[7,8]),([6,9],[6,9]),([10],[10]),([],[]),([],[]),([12,13],[12,13]),([14],[14]),([0,1,0,1,6,7,8,9,10,11,15],[0,1]),([16,11,0,1,6,7,8,9,10,11,15],[11,16]),([2,5,0,1,2,3,4,5,6,7,8,9,10,11,12,13,14,15,16,17],[2,5]),([18,15,17,0,1,2,3,4,5,6,7,8,9,10,11,12,13,14,15,16,17],[15,18])])
def slices_heapSortOrdered_uint64.B10 : List Nat := [0,0,0,0,0,24,0,0,0,384,960,1984,0,0,12288,28672,65475,131011,262143,524287]
theorem slices_heapSortOrdered_uint64.tab10 : rtab .any (opsOf Try.f84 10) = slices_heapSortOrdered_uint64.T10 := by kernel_rfl
theorem slices_heapSortOrdered_uint64.bits10 : waitsOk slices_heapSortOrdered_uint64.T10.2 slices_heapSortOrdered_uint64.B10 = true := by kernel_rfl
set_option maxHeartbeats 8000000 in
set_option maxRecDepth 100000 in
theorem slices_heapSortOrdered_uint64.calls (k : Nat) (P0_ : Nat → Prop) (u9000_ : Value) (l0 : List Int) (a1 : Int) (a2 : Int) (r : List Int) (w0 w : World) (hB : Below w0.heap.size w0 w) (ho0 : Kd.R (Kd.int .u64) 22 w w0.heap.size P0_ u9000_ l0) (h : slices_heapSortOrdered_uint64.f k l0 a1 a2 = some r) :
  Calls Try.prog 84 #[u9000_,.int .i64 a1,.int .i64 a2] w fun e w' => e = .returned (.tuple #[]) ∧ Kd.R (Kd.int .u64) 22 w' w0.heap.size (fun k_ => (P0_ k_ ∨ w.heap.size ≤ k_)) u9000_ r ∧ Below w0.heap.size w0 w' ∧ Kept w w' (fun k_ => P0_ k_) := by
 have HO0 := am (show Kd.R (Kd.int .u64) 22 w w0.heap.size (fun k_ => (P0_ k_ ∨ w.heap.size ≤ k_)) u9000_ l0 from Kd.R_mono ho0 (fun k_ hk => (.inl hk)))
 have HK := am (Kept.refl w (fun k_ => P0_ k_))
 have HW0 := am hB.size
 have HB := am hB
 clear hB
 have H : (slices_heapSortOrdered_uint64.l0 k l0 a1 0 (wrap64 (a2 - a1)) (wrap64 (Int.tdiv (wrap64 ((wrap64 (a2 - a1)) - 1)) 2))) = some r := h
 clear h
 have H' := am H
 clear H
 go_enter Try.func84,Try.ntmps84
 go_wp2
 go_loopg [9] k (fun kq v9 w' => ∃ (x0_1 : List Int) (x9_1 : Int),v9 = .int .i64 x9_1 ∧ Aside0 (slices_heapSortOrdered_uint64.l0 kq x0_1 a1 0 (wrap64 (a2 - a1)) x9_1 = some r) ∧ Aside0 (kq ≤ k) ∧ Aside0 (Kd.R (Kd.int .u64) 22 w' w0.heap.size (fun k_ => (P0_ k_ ∨ w.heap.size ≤ k_)) u9000_ x0_1) ∧ Aside0 (Kept w w' (fun k_ => P0_ k_)) ∧ Aside0 (Below w0.heap.size w0 w'))
 case atStart => exact ⟨(l0),(wrap64 (Int.tdiv (wrap64 ((wrap64 (a2 - a1)) - 1)) 2)),(by first|rfl|(simp;done)|(simp [*];done)),H',⟨Nat.le_refl _⟩,⟨by (with_reducible repeat (first|apply Kd.R_alloc|apply Kd.R_drewN|apply Kd.R_drew));exact HO0.out⟩,⟨by repeat (first|(with_reducible first|exact HK.out|apply Kept.alloc|apply Kept.drewN|apply Kept.drew)|exact HK.out)⟩,⟨bb HB⟩⟩
 case round =>
  clear H'
  try clear p2
  obtain ⟨x0_1,x9_1,rfl,HA,HK1,HO_0,HK,HB⟩ := hrel
  cases gk with
  | zero => exact absurd HA.out (by simp [slices_heapSortOrdered_uint64.l0])
  | succ k1 =>
   have H := HA.out
   clear HA
   simp only [slices_heapSortOrdered_uint64.l0] at H
   by_cases c4 : x9_1 ≥ 0
   ·rw [if_pos c4] at H
    have c4b0 : decide (0 ≤ x9_1) = true := decide_eq_true c4
    clear c4
    replace H := Option.bind_eq_some_iff.mp H
    obtain ⟨t183,A50,H⟩ := H
    try dsimp only at H
    have A5 := am A50
    clear A50
    have H' := am H
    clear H
    obtain ⟨Ao6,co6,eo6⟩ := Kd.R_slice HO_0.out
    subst eo6
    go_wp2_with (first|((with_reducible refine gate_callee (f := 93) rfl ?_);refine goesL_ (some 26) rfl rfl Try.func93 (by kernel_rfl) rfl #[.slice Ao6 x0_1.length co6,.int .i64 x9_1,.int .i64 (wrap64 (a2 - a1)),.int .i64 a1] rfl (by (try simp only [List.map_toArray,List.map_cons,List.map_nil]);first|done|rfl|(simp only [List.length_drop,List.length_take];rfl)) ?_;(with_reducible refine (slices_siftDownOrdered_uint64.calls k1 (fun k_ => some k_ = (.slice Ao6 x0_1.length co6 : Value).ownBlock) (.slice Ao6 x0_1.length co6) x0_1 x9_1 (wrap64 (a2 - a1)) a1 t183 w0 _ ?side1 ?side2 A5.out).mono ?_);(case side1 => repeat (first|(with_reducible first|exact HB.out|apply below_alloc|apply pw_below_drewN|apply below_drew1)|exact HB.out));(case side2 => exact Kd.R_tight rfl HO_0.out);rintro e w7 ⟨rfl,hy0,hb,hkp⟩;refine ⟨_,rfl,?_⟩;have n0_ := am (Kd.R_reok rfl hy0 (fun k_ e_ => HO_0.out.1 k_ e_));have n1_ := am (Kept.then_ (S := (fun k_ => P0_ k_)) (by repeat (first|(with_reducible first|exact HK.out|apply Kept.alloc|apply Kept.drewN|apply Kept.drew)|exact HK.out)) hkp (fun k_ hs_ => (fun e_ => (HO_0.out.1 k_ e_.symm)) hs_));have n2_ := am (hb);clear HO_0 HK HB;have HO_0 := n0_;have HK := n1_;have HB := n2_;clear n0_ n1_ n2_;(try clear hb);(try clear hkp);(try clear hy0)))
    go_roundg k1
    case measure => have := HK1.out;omega
    case rel => exact ⟨(t183),(wrap64 (x9_1 - 1)),(by first|rfl|(simp;done)|(simp [*];done)),H',⟨by have := HK1.out;omega⟩,⟨by (with_reducible repeat (first|apply Kd.R_alloc|apply Kd.R_drewN|apply Kd.R_drew));exact HO_0.out⟩,⟨by repeat (first|(with_reducible first|exact HK.out|apply Kept.alloc|apply Kept.drewN|apply Kept.drew)|exact HK.out)⟩,⟨bb HB⟩⟩
   ·rw [if_neg c4] at H
    have c4b0 : decide (0 ≤ x9_1) = false := decide_eq_false c4
    clear c4
    have H' := am H
    clear H
    go_wp2
    go_loopg [10] k1 (fun kq v10 w' => ∃ (x0_2 : List Int) (x10_2 : Int),v10 = .int .i64 x10_2 ∧ Aside0 (slices_heapSortOrdered_uint64.l1 kq x0_2 a1 0 x10_2 = some r) ∧ Aside0 (kq ≤ k1) ∧ Aside0 (Kd.R (Kd.int .u64) 22 w' w0.heap.size (fun k_ => (P0_ k_ ∨ w.heap.size ≤ k_)) u9000_ x0_2) ∧ Aside0 (Kept w w' (fun k_ => P0_ k_)) ∧ Aside0 (Below w0.heap.size w0 w'))
    case atStart => exact ⟨(x0_1),(wrap64 ((wrap64 (a2 - a1)) - 1)),(by first|rfl|(simp;done)|(simp [*];done)),H',⟨Nat.le_refl _⟩,⟨by (with_reducible repeat (first|apply Kd.R_alloc|apply Kd.R_drewN|apply Kd.R_drew));exact HO_0.out⟩,⟨by repeat (first|(with_reducible first|exact HK.out|apply Kept.alloc|apply Kept.drewN|apply Kept.drew)|exact HK.out)⟩,⟨bb HB⟩⟩
    case round =>
     clear H'
     try clear p2
     try clear c4
     try clear c4b0
     try clear p6
     try clear p2
     obtain ⟨x0_2,x10_2,rfl,HA,HK2,HO_0,HK,HB⟩ := hrel
     cases gk with
     | zero => exact absurd HA.out (by simp [slices_heapSortOrdered_uint64.l1])
     | succ k2 =>
      have H := HA.out
      clear HA
      simp only [slices_heapSortOrdered_uint64.l1] at H
      by_cases c8 : x10_2 ≥ 0
      ·rw [if_pos c8] at H
       have c8b0 : decide (0 ≤ x10_2) = true := decide_eq_true c8
       clear c8
       obtain ⟨ji9,hji9⟩ : ∃ j_ : Int,(wrap64 (a1 + x10_2)) = j_ := ⟨_,rfl⟩
       first|rw [hji9] at H|simp only [hji9] at H
       have hji9w : (IntKind.i64.wrap (a1 + x10_2)) = ji9 := (i64_w _).trans hji9
       by_cases c10 : 0 ≤ (ji9)
       ·rw [if_pos c10] at H
        have c10b0 : decide (0 ≤ (ji9)) = true := decide_eq_true c10
        clear c10
        by_cases c11 : (ji9) < (x0_2.length : Int)
        ·rw [if_pos c11] at H
         have c11b0 : decide ((ji9) < (x0_2.length : Int)) = true := decide_eq_true c11
         clear c11
         by_cases c12 : 0 ≤ a1
         ·rw [if_pos c12] at H
          have c12b0 : decide (0 ≤ a1) = true := decide_eq_true c12
          clear c12
          by_cases c13 : a1 < (x0_2.length : Int)
          ·rw [if_pos c13] at H
           have c13b0 : decide (a1 < (x0_2.length : Int)) = true := decide_eq_true c13
           clear c13
           obtain ⟨y186,hy186⟩ : ∃ y_ : List Int,y_ = (x0_2.set (a1 : Int).toNat (rd x0_2 (ji9))) := ⟨_,rfl⟩
           replace H : ((slices_siftDownOrdered_uint64.f k2 (y186.set ((ji9) : Int).toNat (rd x0_2 a1)) 0 x10_2 a1).bind fun t188 => (slices_heapSortOrdered_uint64.l1 k2 t188 a1 0 (wrap64 (x10_2 - 1)))) = some r := by first|(rw [hy186];with_reducible exact H)|(have H2_ := (Option.bind_some _ _).symm.trans H;rw [hy186];with_reducible exact H2_)|(have H2_ := (Option.bind_some _ _).symm.trans H;with_reducible exact H2_)|with_reducible exact H|(rw [hy186];exact H)|exact H
           have Ny186 := am hy186
           clear hy186
           obtain ⟨y187,hy187⟩ : ∃ y_ : List Int,y_ = (y186.set ((ji9) : Int).toNat (rd x0_2 a1)) := ⟨_,rfl⟩
           replace H : ((slices_siftDownOrdered_uint64.f k2 y187 0 x10_2 a1).bind fun t188 => (slices_heapSortOrdered_uint64.l1 k2 t188 a1 0 (wrap64 (x10_2 - 1)))) = some r := by first|(rw [hy187];with_reducible exact H)|(have H2_ := (Option.bind_some _ _).symm.trans H;rw [hy187];with_reducible exact H2_)|(have H2_ := (Option.bind_some _ _).symm.trans H;with_reducible exact H2_)|with_reducible exact H|(rw [hy187];exact H)|exact H
           have Ny187 := am hy187
           clear hy187
           replace H := Option.bind_eq_some_iff.mp H
           obtain ⟨t188,A160,H⟩ := H
           try dsimp only at H
           have A16 := am A160
           clear A160
           have H' := am H
           clear H
           try go_wp2
           have n0_ := am (Kd.R_drew HO_0.out)
           have n1_ := am (Kept.drew HK.out)
           have n2_ := am (below_drew1 HB.out)
           clear HO_0
           clear HK
           clear HB
           have HO_0 := n0_
           have HK := n1_
           have HB := n2_
           clear n0_ n1_ n2_
           obtain ⟨Ao18,co18,eo18⟩ := Kd.R_slice HO_0.out
           (first|subst eo18|(injection eo18 with f1_ f2_ f3_;have f4_ := f1_.symm;have f5_ := f3_.symm;clear f1_ f2_ f3_;subst f4_;subst f5_))
           have p184 : 0 ≤ ((ji9) : Int) := od
           have q184 : (ji9) < (x0_2.length : Int) := od
           obtain ⟨ad184,e184,hx184_0⟩ := Kd.at_int (Kd.R_reads' HO_0.out).2.2 (ji9) p184 q184
           cases e184
           replace p184 := eq_true p184
           replace q184 := eq_true q184
           have p185 : 0 ≤ (a1 : Int) := od
           have q185 : a1 < (x0_2.length : Int) := od
           obtain ⟨ad185,e185,hx185_0⟩ := Kd.at_int (Kd.R_reads' HO_0.out).2.2 a1 p185 q185
           obtain rfl : ad184 = ad185 := (by injection e185)
           replace p185 := eq_true p185
           replace q185 := eq_true q185
           have p14 : 0 ≤ (a1 : Int) := od
           have q14 : (a1 : Int) < ((x0_2.length : Int) : Int) := od
           obtain ⟨go14,co14,eo14,gb14,gl14,cl14,HG14⟩ := Kd.R_form HO_0.out (by omega)
           (first|cases eo14|(injection eo14 with ea_ en_ ec_;(first|subst ea_|(injection ea_ with ea_;subst ea_));subst ec_;clear en_))
           have GB14 := am gb14
           have GG14 := am HG14
           clear gb14 gl14 HG14
           have HMgo14 := am (show (P0_ go14 ∨ w.heap.size ≤ go14) from (HO_0.out.1 _ rfl))
           (first|simp only [add_plain] at hx184_0|skip)
           (first|simp only [add_plain] at hx185_0|skip)
           obtain ⟨hx14_0,hf14_0⟩ := Kd.R_celln 0 HO_0.out (a1 : Int) p14 q14
           replace p14 := eq_true p14
           replace q14 := eq_true q14
           have HP19 := Kd.R_putn HO_0.out (a1 : Int) (rd x0_2 (ji9))
           rw [← Ny186.out] at HP19
           have HQ19 := am HP19
           clear HP19
           have p15 : 0 ≤ ((ji9) : Int) := od
           have q15 : ((ji9) : Int) < ((x0_2.length : Int) : Int) := od
           obtain ⟨hx15_0,hf15_0⟩ := Kd.R_celln 0 HQ19.out ((ji9) : Int) p15 q15
           replace p15 := eq_true p15
           replace q15 := eq_true q15
           have HP20 := Kd.R_putn HQ19.out ((ji9) : Int) (rd x0_2 a1)
           rw [← Ny187.out] at HP20
           have HQ20 := am HP20
           clear HP20
           refine start_ (n := 20) (S := fun w' => w'.cell? ⟨go14,((ji9)).toNat,none⟩ = some (.int .u64 (rd x0_2 (ji9))) ∧ w'.cell? ⟨go14,(a1).toNat,none⟩ = some (.int .u64 (rd x0_2 a1))) (ds := [17,19]) (bz 20 0) (by kernel_rfl) rfl rfl ⟨hx184_0,hx185_0⟩ (fun hHeld => ?_);refine with_tabW slices_heapSortOrdered_uint64.tab10 slices_heapSortOrdered_uint64.bits10 (fun HT_ HW_ => ?_)
           generalize wr.drew = w17 at HO_0 HK HB GG14 HQ19 HQ20 hf14_0 hf15_0 hx14_0 hx15_0 hx184_0 hx185_0 hHeld ⊢
           refine pk 0 33 (bz 20 1) HT_ ?_
           refine pk 1 34 (bz 20 3) HT_ ?_
           refine pk 2 35 (bz 20 7) HT_ ?_
           refine pk 3 36 (bz 20 15) HT_ ?_
           refine pk 4 37 (bz 20 31) HT_ ?_
           refine pk 5 38 (bz 20 63) HT_ ?_
           refine pk 6 39 (bz 20 127) HT_ ?_
           refine pk 7 40 (bz 20 255) HT_ ?_
           refine pk 8 41 (bz 20 511) HT_ ?_
           refine pk 9 42 (bz 20 1023) HT_ ?_
           refine pk 10 43 (bz 20 2047) HT_ ?_
           refine pk 12 45 (bz 20 6143) HT_ ?_
           refine pk 13 46 (bz 20 14335) HT_ ?_
           refine pk 14 47 (bz 20 30719) HT_ ?_
           refine tk 11 44 (bz 20 32767) HT_ HW_ hHeld ?_
           refine tk 15 48 (bz 20 65535) HT_ HW_ hHeld ?_
           refine pk 16 49 (bz 20 131071) HT_ ?_
           refine last_ (i := 17) (N := none) (bz 20 262143) rfl rfl (one_of HT_.out (by kernel_rfl)) (by decide) (fun K hK => ?_)
           refine skip_ (w1 := ?_) (by rfl) rfl ?_ ?_
           rotate_left
           ·go_simp
            rfl
           refine hK.out _ _ ?_
           clear hK K
           refine pk 18 50 (bz 20 524287) HT_ ?_
           refine last_ (i := 19) (N := none) (bz 20 1048575) rfl rfl (one_of HT_.out (by kernel_rfl)) (by decide) (fun K hK => ?_)
           refine skip_ (w1 := ?_) (by rfl) rfl ?_ ?_
           rotate_left
           ·go_simp
            rfl
           refine hK.out _ _ ?_
           clear hK K
           refine done_ (done_of HT_.out (by kernel_rfl)) ?_
           have n0_ : Aside0 (Kd.R (Kd.int .u64) 22 ((w17.setCell ⟨go14,(a1 : Int).toNat,none⟩ (.int .u64 (rd x0_2 (ji9)))).setCell ⟨go14,((ji9) : Int).toNat,none⟩ (.int .u64 (rd x0_2 a1))) w0.heap.size (fun k_ => (P0_ k_ ∨ w.heap.size ≤ k_)) (.slice (some ⟨go14,0,none⟩) x0_2.length co18) y187) := ⟨by (with_reducible repeat (first|apply Kd.R_alloc|apply Kd.R_drewN|apply Kd.R_drew));exact HQ20.out⟩
           have n1_ : Aside0 (Kept w ((w17.setCell ⟨go14,(a1 : Int).toNat,none⟩ (.int .u64 (rd x0_2 (ji9)))).setCell ⟨go14,((ji9) : Int).toNat,none⟩ (.int .u64 (rd x0_2 a1))) (fun k_ => P0_ k_)) := ⟨by repeat (first|(with_reducible first|exact HK.out|apply Kept.alloc|apply Kept.drewN|apply Kept.drew|refine Kept.setCell ?_ HMgo14.out _|refine Kept.setCell ?_ HMgo14.out _)|exact HK.out)⟩
           have n2_ : Aside0 (Below w0.heap.size w0 ((w17.setCell ⟨go14,(a1 : Int).toNat,none⟩ (.int .u64 (rd x0_2 (ji9)))).setCell ⟨go14,((ji9) : Int).toNat,none⟩ (.int .u64 (rd x0_2 a1)))) := ⟨by repeat (first|(with_reducible first|exact HB.out|apply below_alloc|apply pw_below_drewN|apply below_drew1|refine below_set ?_ GB14.out|refine below_set ?_ GB14.out)|exact HB.out)⟩
           (try clear HO_0)
           (try clear HK)
           (try clear HB)
           generalize ((w17.setCell ⟨go14,(a1 : Int).toNat,none⟩ (.int .u64 (rd x0_2 (ji9)))).setCell ⟨go14,((ji9) : Int).toNat,none⟩ (.int .u64 (rd x0_2 a1))) = w21 at n0_ n1_ n2_ ⊢
           have HO_0 := n0_
           have HK := n1_
           have HB := n2_
           clear n0_ n1_ n2_
           try go_wp2_with (first|((with_reducible refine gate_callee (f := 93) rfl ?_);refine goesL_ (some 55) rfl rfl Try.func93 (by kernel_rfl) rfl #[.slice (some ⟨go14,0,none⟩) x0_2.length co18,.int .i64 0,.int .i64 x10_2,.int .i64 a1] rfl (by (try simp only [List.map_toArray,List.map_cons,List.map_nil]);first|done|rfl|(simp only [List.length_drop,List.length_take];rfl)) ?_;(with_reducible refine (slices_siftDownOrdered_uint64.calls k2 (fun k_ => some k_ = (.slice (some ⟨go14,0,none⟩) x0_2.length co18 : Value).ownBlock) (.slice (some ⟨go14,0,none⟩) x0_2.length co18) y187 0 x10_2 a1 t188 w0 _ ?side1 ?side2 A16.out).mono ?_);(case side1 => repeat (first|(with_reducible first|exact HB.out|apply below_alloc|apply pw_below_drewN|apply below_drew1)|exact HB.out));(case side2 => exact Kd.R_tight rfl HO_0.out);rintro e w22 ⟨rfl,hy0,hb,hkp⟩;refine ⟨_,rfl,?_⟩;have n0_ := am (Kd.R_reok rfl hy0 (fun k_ e_ => HO_0.out.1 k_ e_));have n1_ := am (Kept.then_ (S := (fun k_ => P0_ k_)) (by repeat (first|(with_reducible first|exact HK.out|apply Kept.alloc|apply Kept.drewN|apply Kept.drew)|exact HK.out)) hkp (fun k_ hs_ => (fun e_ => (HO_0.out.1 k_ e_.symm)) hs_));have n2_ := am (hb);clear HO_0 HK HB;have HO_0 := n0_;have HK := n1_;have HB := n2_;clear n0_ n1_ n2_;(try clear hb);(try clear hkp);(try clear hy0)))
           go_roundg k2
           case measure => have := HK1.out;have := HK2.out;omega
           case rel => exact ⟨(t188),(wrap64 (x10_2 - 1)),(by first|rfl|(simp;done)|(simp [*];done)),H',⟨by have := HK1.out;have := HK2.out;omega⟩,⟨by (with_reducible repeat (first|apply Kd.R_alloc|apply Kd.R_drewN|apply Kd.R_drew));exact HO_0.out⟩,⟨by repeat (first|(with_reducible first|exact HK.out|apply Kept.alloc|apply Kept.drewN|apply Kept.drew)|exact HK.out)⟩,⟨bb HB⟩⟩
          ·rw [if_neg c13] at H
           exact absurd H (by simp)
         ·rw [if_neg c12] at H
          exact absurd H (by simp)
        ·rw [if_neg c11] at H
         exact absurd H (by simp)
       ·rw [if_neg c10] at H
        exact absurd H (by simp)
      ·rw [if_neg c8] at H
       have c8b0 : decide (0 ≤ x10_2) = false := decide_eq_false c8
       clear c8
       obtain rfl := Option.some.inj H
       go_wp2
       first|go_end0|((try simp only [Exit.inBlock,Exit.then]);refine bodyPost_ret (results_none rfl _ _ _) rfl ?_)
       exact ⟨by first|rfl|(simp [errW_none,errW_some] <;> rfl)|(simp [*,errW_none,errW_some] <;> rfl),by (with_reducible repeat (first|apply Kd.R_alloc|apply Kd.R_drewN|apply Kd.R_drew));exact HO_0.out,by repeat (first|(with_reducible first|exact HB.out|apply below_alloc|apply pw_below_drewN|apply below_drew1)|exact HB.out),by repeat (first|(with_reducible first|exact HK.out|apply Kept.alloc|apply Kept.drewN|apply Kept.drew)|exact HK.out)⟩
def bits_Len.f (k : Nat) (a0 : Int) : Option (Int) := (bits_Len64.f k a0).bind fun t189 => (some t189)
set_option maxHeartbeats 8000000 in
set_option maxRecDepth 100000 in
theorem bits_Len.calls (k : Nat) (a0 : Int) (r : Int) (w : World) (h : bits_Len.f k a0 = some r) :
  Calls Try.prog 80 #[.int .u64 a0] w fun e w' => e = .returned (.int .i64 r) ∧ Drawn0 w w' := by
 have H : ((bits_Len64.f k a0).bind fun t189 => (some t189)) = some r := h
 clear h
 replace H := Option.bind_eq_some_iff.mp H
 obtain ⟨t189,A20,H⟩ := H
 try dsimp only at H
 have A2 := am A20
 clear A20
 obtain rfl := Option.some.inj H
 go_enter Try.func80,Try.ntmps80
 go_wp2_with (first|((with_reducible refine gate_callee (f := 72) rfl ?_);refine goesL_ (some 7) rfl rfl Try.func72 (by kernel_rfl) rfl #[.int .u64 a0] rfl (by (try simp only [List.map_toArray,List.map_cons,List.map_nil]);first|done|rfl|(simp only [List.length_drop,List.length_take];rfl)) ?_;(with_reducible refine (bits_Len64.calls k a0 t189 _ A2.out).mono ?_);rintro e w' ⟨rfl,⟨nd,rfl⟩⟩;refine ⟨_,rfl,?_⟩))
 go_ret
 exact ⟨by first|rfl|(simp;done)|(simp [*];done),by repeat (first|exact Drawn0.refl _|apply Drawn0.step)⟩
end Go.Proofs.Ytjnkkfdlcbcelaa.Pr
end
section
namespace Go.Proofs.Ytjnkkfdlcbcelaa.Srt
open Go.RowKit Go.Proofs.Ytjnkkfdlcbcelaa.Pr Go.Proofs.YtjnkkfdlcbcelaaW.PrintWords Go.Proofs.YtjnkkfdlcbcelaaW.PrintLast Go.Proofs.YtjnkkfdlcbcelaaW.PrintMore Go.Sort
theorem sless (a b : Int) : cmp_Less_uint64.f a b = some (ltInt a b) := by
 unfold cmp_Less_uint64.f cmp_isNaN_uint64.f ltInt
 simp
theorem sw64 {n : Int} (h0 : -9223372036854775808 ≤ n) (h1 : n < 9223372036854775808) : wrap64 n = n := by unfold wrap64;omega
theorem srd (l : List Int) (i : Nat) : rd l (i : Int) = l.toArray[i]! := by
 unfold rd
 rw [Int.toNat_natCast]
 simp [List.getD_eq_getElem?_getD]
theorem sswp (l : List Int) (i j : Nat) : ((l.set i (rd l (j : Int))).set j (rd l (i : Int))).toArray = swp l.toArray i j := by
 rw [srd,srd];unfold swp;simp
theorem slen (l : List Int) (i j : Nat) (x y : Int) : ((l.set i x).set j y).length = l.length := by simp
theorem tl_swp (l : List Int) (i j : Nat) : (swp l.toArray i j).toList = (l.set i (rd l (j : Int))).set j (rd l (i : Int)) := by rw [← sswp]
section
variable {R : List Int}
theorem ins_l1 (a b i : Nat) (hb : b < 1099511627776) (hi : i < b) : ∀ (j : Nat) (l : List Int),j ≤ i → b ≤ l.length → l.length < 1099511627776 →
  Ev (fun k => slices_insertionSortOrdered_uint64.l0 k (insInner ltInt a j l.toArray).toList (a : Int) (b : Int) ((i + 1 : Nat) : Int)) R →
  Ev (fun k => slices_insertionSortOrdered_uint64.l1 k l (a : Int) (b : Int) (i : Int) (j : Int)) R
 | 0,l,hj,hbl,hl,h => by
  refine Ev.step (fun k => ?_) h
  simp only [slices_insertionSortOrdered_uint64.l1]
  rw [if_neg (by omega),sw64 (by omega) (by omega)]
  simp only [insInner]
  rfl
 | j + 1,l,hj,hbl,hl,h => by
  have e1 : wrap64 (((j + 1 : Nat) : Int) - 1) = (j : Int) := by rw [sw64 (by omega) (by omega)];omega
  by_cases hja : a < j + 1
  ·by_cases hlt : ltInt (l.toArray[j + 1]!) (l.toArray[j]!) = true
   ·have hs : insInner ltInt a (j + 1) l.toArray = insInner ltInt a j (swp l.toArray (j + 1) j) := by
     rw [insInner,if_pos (by rw [hlt,decide_eq_true (show j + 1 > a from hja)];rfl)]
    rw [hs,← sswp] at h
    have ih := ins_l1 a b i hb hi j ((l.set (j + 1) (rd l (j : Int))).set j (rd l ((j + 1 : Nat) : Int))) (by omega) (by simpa using hbl) (by simpa using hl) h
    refine Ev.step (fun k => ?_) ih
    simp only [slices_insertionSortOrdered_uint64.l1]
    rw [e1,if_pos (by omega),if_pos (by omega),if_pos (by omega),if_pos (by omega),if_pos (by omega),sless,srd,srd,hlt,Option.bind_some,if_pos rfl]
    rfl
   ·have hs : insInner ltInt a (j + 1) l.toArray = l.toArray := by
     rw [insInner,if_neg (fun h => hlt (Bool.and_eq_true_iff.1 h).2)]
    rw [hs] at h
    refine Ev.step (fun k => ?_) h
    simp only [slices_insertionSortOrdered_uint64.l1]
    rw [e1,if_pos (by omega),if_pos (by omega),if_pos (by omega),if_pos (by omega),if_pos (by omega),sless,srd,srd,Option.bind_some,if_neg hlt,sw64 (by omega) (by omega)]
    rfl
  ·have hs : insInner ltInt a (j + 1) l.toArray = l.toArray := by
    rw [insInner,if_neg (fun h => hja (of_decide_eq_true (Bool.and_eq_true_iff.1 h).1))]
   rw [hs] at h
   refine Ev.step (fun k => ?_) h
   simp only [slices_insertionSortOrdered_uint64.l1]
   rw [if_neg (by omega),sw64 (by omega) (by omega)]
   rfl
theorem insInner_size (a : Nat) : ∀ (j : Nat) (d : Array Int),(insInner ltInt a j d).size = d.size
 | 0,d => rfl
 | j + 1,d => by
  rw [insInner]
  split
  ·rw [insInner_size a j,size_swp]
  ·rfl
theorem ins_l0 (a b : Nat) (hb : b < 1099511627776) : ∀ (n i : Nat) (l : List Int),n = b - i → b ≤ l.length → l.length < 1099511627776 →
  Ev (fun k => slices_insertionSortOrdered_uint64.l0 k l (a : Int) (b : Int) (i : Int)) (insOuter ltInt a b i l.toArray).toList
 | 0,i,l,hn,hbl,hl => by
  rw [insOuter,if_neg (by omega)]
  refine Ev.step (fun k => ?_) (Ev.now _)
  simp only [slices_insertionSortOrdered_uint64.l0]
  rw [if_neg (by omega)]
 | n + 1,i,l,hn,hbl,hl => by
  rw [insOuter,if_pos (by omega)]
  have hsz : (insInner ltInt a i l.toArray).toList.length = l.length := by rw [Array.length_toList,insInner_size];simp
  have ih := ins_l0 a b hb n (i + 1) (insInner ltInt a i l.toArray).toList (by omega) (by omega) (by omega)
  rw [Array.toArray_toList] at ih
  refine Ev.step (fun k => ?_) (ins_l1 a b i hb (by omega) i l (Nat.le_refl _) hbl hl ih)
  simp only [slices_insertionSortOrdered_uint64.l0]
  rw [if_pos (by omega)]
theorem ins_ev (a b : Nat) (l : List Int) (hab : a ≤ b) (hbl : b ≤ l.length) (hl : l.length < 1099511627776) :
  Ev (fun k => slices_insertionSortOrdered_uint64.f k l (a : Int) (b : Int)) (insertionSort ltInt l.toArray a b).toList := by
 have h := ins_l0 a b (by omega) _ (a + 1) l rfl hbl hl
 unfold slices_insertionSortOrdered_uint64.f insertionSort
 rw [sw64 (by omega) (by omega)]
 exact h
theorem siftDown_size (hi first : Nat) : ∀ (n root : Nat) (d : Array Int),n = hi - root → (siftDown ltInt hi first root d).size = d.size := by
 intro n
 induction n using Nat.strongRecOn with
 | _ n ih =>
  intro root d hn
  rw [siftDown]
  split
  ·rfl
  ·split
   ·split
    ·rfl
    ·split
     ·rw [ih (hi - (2 * root + 2)) (by omega) (2 * root + 2) _ rfl,size_swp]
     ·rfl
   ·split
    ·rfl
    ·rw [ih (hi - (2 * root + 1)) (by omega) (2 * root + 1) _ rfl,size_swp]
def childOf (hi first root : Nat) (d : Array Int) : Nat := if (decide (2 * root + 1 + 1 < hi) && ltInt d[first + (2 * root + 1)]! d[first + (2 * root + 1) + 1]!) = true then 2 * root + 2 else 2 * root + 1
theorem siftDown_eq (hi first root : Nat) (d : Array Int) : siftDown ltInt hi first root d =
  if 2 * root + 1 ≥ hi then d else (if ltInt d[first + root]! d[first + childOf hi first root d]! = true then siftDown ltInt hi first (childOf hi first root d) (swp d (first + root) (first + childOf hi first root d)) else d) := by
 rw [siftDown]
 split
 ·rfl
 ·unfold childOf
  by_cases h : (decide (2 * root + 1 + 1 < hi) && ltInt d[first + (2 * root + 1)]! d[first + (2 * root + 1) + 1]!) = true
  ·rw [if_pos h,if_pos h]
   have h2 : 2 * root + 2 < hi := of_decide_eq_true (Bool.and_eq_true_iff.1 h).1
   cases hc : ltInt d[first + root]! d[first + (2 * root + 2)]! with
   | true => rw [if_neg (by decide),dif_pos h2,if_pos rfl]
   | false => rw [if_pos (by decide),if_neg (by decide)]
  ·rw [if_neg h,if_neg h]
   cases hc : ltInt d[first + root]! d[first + (2 * root + 1)]! with
   | true => rw [if_neg (by decide),if_pos rfl]
   | false => rw [if_pos (by decide),if_neg (by decide)]
theorem sift_j1 (hi first root c : Nat) (f : Bool) (l : List Int) (hc : c = if f = true then 2 * root + 2 else 2 * root + 1) (hlt : c < hi) (hfl : first + hi ≤ l.length) (hl : l.length < 1099511627776)
  (hy : ltInt l.toArray[first + root]! l.toArray[first + c]! = true → Ev (fun k => slices_siftDownOrdered_uint64.l0 k ((l.set (first + root) (rd l ((first + c : Nat) : Int))).set (first + c) (rd l ((first + root : Nat) : Int))) (hi : Int) (first : Int) (c : Int)) R)
  (hn : ltInt l.toArray[first + root]! l.toArray[first + c]! = false → R = l) :
  Ev (fun k => slices_siftDownOrdered_uint64.j1 k l (hi : Int) (first : Int) (root : Int) ((2 * root + 1 : Nat) : Int) f) R := by
 have hr : root < c := by split at hc <;> omega
 have e5 : wrap64 ((first : Int) + (root : Int)) = ((first + root : Nat) : Int) := by rw [sw64 (by omega) (by omega)];omega
 have e6 : wrap64 ((first : Int) + (c : Int)) = ((first + c : Nat) : Int) := by rw [sw64 (by omega) (by omega)];omega
 cases f with
 | true =>
  have hc2 : c = 2 * root + 2 := by rw [hc,if_pos rfl]
  have e2 : wrap64 (((2 * root + 1 : Nat) : Int) + 1) = (c : Int) := by rw [sw64 (by omega) (by omega)];omega
  cases hb : ltInt l.toArray[first + root]! l.toArray[first + c]! with
  | false =>
   rw [hn hb]
   refine Ev.step (fun k => ?_) (Ev.now _)
   simp only [slices_siftDownOrdered_uint64.j1]
   rw [if_pos trivial,e2,e5,e6,if_pos (by omega),if_pos (by omega),if_pos (by omega),if_pos (by omega),sless,srd,srd,hb,Option.bind_some,if_neg (by decide)]
  | true =>
   refine Ev.step (fun k => ?_) (hy hb)
   simp only [slices_siftDownOrdered_uint64.j1]
   rw [if_pos trivial,e2,e5,e6,if_pos (by omega),if_pos (by omega),if_pos (by omega),if_pos (by omega),sless,show ltInt (rd l ((first + root : Nat) : Int)) (rd l ((first + c : Nat) : Int)) = true from by rw [srd,srd];exact hb,Option.bind_some,if_pos rfl]
   rfl
 | false =>
  have hc2 : ((2 * root + 1 : Nat) : Int) = (c : Int) := by rw [hc,if_neg (by decide)]
  rw [hc2]
  cases hb : ltInt l.toArray[first + root]! l.toArray[first + c]! with
  | false =>
   rw [hn hb]
   refine Ev.step (fun k => ?_) (Ev.now _)
   simp only [slices_siftDownOrdered_uint64.j1]
   rw [if_neg (by decide),e5,e6,if_pos (by omega),if_pos (by omega),if_pos (by omega),if_pos (by omega),sless,srd,srd,hb,Option.bind_some,if_neg (by decide)]
  | true =>
   refine Ev.step (fun k => ?_) (hy hb)
   simp only [slices_siftDownOrdered_uint64.j1]
   rw [if_neg (by decide),e5,e6,if_pos (by omega),if_pos (by omega),if_pos (by omega),if_pos (by omega),sless,show ltInt (rd l ((first + root : Nat) : Int)) (rd l ((first + c : Nat) : Int)) = true from by rw [srd,srd];exact hb,Option.bind_some,if_pos rfl]
   rfl
theorem sift_l0 (hi first : Nat) : ∀ (n root : Nat) (l : List Int),hi ≤ root + n → first + hi ≤ l.length → l.length < 1099511627776 → root < 1099511627776 →
  Ev (fun k => slices_siftDownOrdered_uint64.l0 k l (hi : Int) (first : Int) (root : Int)) (siftDown ltInt hi first root l.toArray).toList
 | 0,root,l,hn,hfl,hl,hr => by
  have e1 : wrap64 (wrap64 (2 * (root : Int)) + 1) = ((2 * root + 1 : Nat) : Int) := by rw [sw64 (n := 2 * (root : Int)) (by omega) (by omega),sw64 (by omega) (by omega)];omega
  rw [siftDown_eq,if_pos (by omega)]
  refine Ev.step (fun k => ?_) (Ev.now _)
  simp only [slices_siftDownOrdered_uint64.l0,e1]
  rw [if_pos (by omega)]
 | n + 1,root,l,hn,hfl,hl,hr => by
  have e1 : wrap64 (wrap64 (2 * (root : Int)) + 1) = ((2 * root + 1 : Nat) : Int) := by rw [sw64 (n := 2 * (root : Int)) (by omega) (by omega),sw64 (by omega) (by omega)];omega
  rw [siftDown_eq]
  by_cases h1 : 2 * root + 1 ≥ hi
  ·rw [if_pos h1]
   refine Ev.step (fun k => ?_) (Ev.now _)
   simp only [slices_siftDownOrdered_uint64.l0,e1]
   rw [if_pos (by omega)]
  ·rw [if_neg h1]
   have e2 : wrap64 (((2 * root + 1 : Nat) : Int) + 1) = ((2 * root + 2 : Nat) : Int) := by rw [sw64 (by omega) (by omega)];omega
   have hj : ∀ f : Bool,childOf hi first root l.toArray = (if f = true then 2 * root + 2 else 2 * root + 1) → (f = true → 2 * root + 2 < hi) → Ev (fun k => slices_siftDownOrdered_uint64.j1 k l (hi : Int) (first : Int) (root : Int) ((2 * root + 1 : Nat) : Int) f)
     (if ltInt l.toArray[first + root]! l.toArray[first + childOf hi first root l.toArray]! = true then siftDown ltInt hi first (childOf hi first root l.toArray) (swp l.toArray (first + root) (first + childOf hi first root l.toArray)) else l.toArray).toList := by
    intro f hc hf
    have hcl : childOf hi first root l.toArray < hi ∧ root < childOf hi first root l.toArray := by
     rw [hc]
     cases f with
     | true => have := hf rfl;rw [if_pos rfl];omega
     | false => rw [if_neg (by decide)];omega
    refine sift_j1 hi first root _ f l hc hcl.1 hfl hl (fun hb => ?_) (fun hb => ?_)
    ·rw [if_pos hb,← sswp]
     exact sift_l0 hi first n _ _ (by omega) (by rw [slen];exact hfl) (by rw [slen];exact hl) (by omega)
    ·rw [if_neg (by rw [hb];decide)]
   by_cases h2 : 2 * root + 1 + 1 < hi
   ·have e3 : wrap64 ((first : Int) + ((2 * root + 1 : Nat) : Int)) = ((first + (2 * root + 1) : Nat) : Int) := by rw [sw64 (by omega) (by omega)];omega
    have e4 : wrap64 (((first + (2 * root + 1) : Nat) : Int) + 1) = ((first + (2 * root + 1) + 1 : Nat) : Int) := by rw [sw64 (by omega) (by omega)];omega
    have hj' := hj (ltInt l.toArray[first + (2 * root + 1)]! l.toArray[first + (2 * root + 1) + 1]!) (by unfold childOf;rw [decide_eq_true h2,Bool.true_and]) (fun _ => by omega)
    refine Ev.step (fun k => ?_) hj'
    simp only [slices_siftDownOrdered_uint64.l0,e1,e2,e3,e4]
    rw [if_neg (by omega),if_pos (by omega),if_pos (by omega),if_pos (by omega),if_pos (by omega),if_pos (by omega),sless,srd,srd,Option.bind_some]
   ·have hj' := hj false (by unfold childOf;rw [decide_eq_false h2,Bool.false_and]) (fun h => by cases h)
    refine Ev.step (fun k => ?_) hj'
    simp only [slices_siftDownOrdered_uint64.l0,e1,e2]
    rw [if_neg (by omega),if_neg (by omega)]
theorem sift_ev (hi first root : Nat) (l : List Int) (hfl : first + hi ≤ l.length) (hl : l.length < 1099511627776) (hr : root < 1099511627776) :
  Ev (fun k => slices_siftDownOrdered_uint64.f k l (root : Int) (hi : Int) (first : Int)) (siftDown ltInt hi first root l.toArray).toList := sift_l0 hi first hi root l (by omega) hfl hl hr
theorem toL (d : Array Int) : d.toList.toArray = d := rfl
theorem sift_len (hi first root : Nat) (l : List Int) : (siftDown ltInt hi first root l.toArray).toList.length = l.length := by
 rw [Array.length_toList,siftDown_size hi first _ root _ rfl];simp
theorem pop_l1 (a : Nat) : ∀ (n : Nat) (l : List Int),a + n ≤ l.length → l.length < 1099511627776 →
  Ev (fun k => slices_heapSortOrdered_uint64.l1 k l (a : Int) 0 ((n : Int) - 1)) (heapPop ltInt a n l.toArray).toList
 | 0,l,h,hl => by
  refine Ev.step (fun k => ?_) (Ev.now _)
  simp only [slices_heapSortOrdered_uint64.l1]
  rw [if_neg (by omega)]
  rfl
 | n + 1,l,h,hl => by
  have e1 : ((n + 1 : Nat) : Int) - 1 = (n : Int) := by omega
  have e2 : wrap64 ((a : Int) + (n : Int)) = ((a + n : Nat) : Int) := by rw [sw64 (by omega) (by omega)];omega
  have e3 : wrap64 ((n : Int) - 1) = (n : Int) - 1 := sw64 (by omega) (by omega)
  rw [heapPop,← sswp]
  have hs := sift_ev n a 0 ((l.set a (rd l ((a + n : Nat) : Int))).set (a + n) (rd l (a : Int))) (by rw [slen];omega) (by rw [slen];exact hl) (by omega)
  have ih := pop_l1 a n (siftDown ltInt n a 0 ((l.set a (rd l ((a + n : Nat) : Int))).set (a + n) (rd l (a : Int))).toArray).toList (by rw [sift_len,slen];omega) (by rw [sift_len,slen];exact hl)
  rw [toL] at ih
  refine Ev.step (f := fun k => (slices_siftDownOrdered_uint64.f k ((l.set a (rd l ((a + n : Nat) : Int))).set (a + n) (rd l (a : Int))) 0 (n : Int) (a : Int)).bind fun t => slices_heapSortOrdered_uint64.l1 k t (a : Int) 0 ((n : Int) - 1)) (fun k => ?_) (Ev.bind hs ih)
  simp only [slices_heapSortOrdered_uint64.l1,e1,e2,e3]
  rw [if_pos (by omega),if_pos (by omega),if_pos (by omega),if_pos (by omega),if_pos (by omega)]
  rfl
theorem build_l0 (a hi : Nat) (hhi : 0 < hi) : ∀ (n : Nat) (l : List Int),n ≤ hi → a + hi ≤ l.length → l.length < 1099511627776 →
  Ev (fun k => slices_heapSortOrdered_uint64.l0 k l (a : Int) 0 (hi : Int) ((n : Int) - 1)) (heapPop ltInt a hi (heapBuild ltInt hi a n l.toArray)).toList
 | 0,l,hn,h,hl => by
  have e3 : wrap64 ((hi : Int) - 1) = (hi : Int) - 1 := sw64 (by omega) (by omega)
  refine Ev.step (fun k => ?_) (pop_l1 a hi l h hl)
  simp only [slices_heapSortOrdered_uint64.l0]
  rw [if_neg (by omega),e3]
 | n + 1,l,hn,h,hl => by
  have e1 : ((n + 1 : Nat) : Int) - 1 = (n : Int) := by omega
  have e3 : wrap64 ((n : Int) - 1) = (n : Int) - 1 := sw64 (by omega) (by omega)
  rw [heapBuild]
  have hs := sift_ev hi a n l h hl (by omega)
  have ih := build_l0 a hi hhi n (siftDown ltInt hi a n l.toArray).toList (by omega) (by rw [sift_len];exact h) (by rw [sift_len];exact hl)
  rw [toL] at ih
  refine Ev.step (f := fun k => (slices_siftDownOrdered_uint64.f k l (n : Int) (hi : Int) (a : Int)).bind fun t => slices_heapSortOrdered_uint64.l0 k t (a : Int) 0 (hi : Int) ((n : Int) - 1)) (fun k => ?_) (Ev.bind hs ih)
  simp only [slices_heapSortOrdered_uint64.l0,e1,e3]
  rw [if_pos (by omega)]
theorem heap_ev (a b : Nat) (l : List Int) (hab : a < b) (hbl : b ≤ l.length) (hl : l.length < 1099511627776) :
  Ev (fun k => slices_heapSortOrdered_uint64.f k l (a : Int) (b : Int)) (heapSort ltInt l.toArray a b).toList := by
 have h := build_l0 a (b - a) (by omega) ((b - a - 1) / 2 + 1) l (by omega) (by omega) hl
 have e1 : wrap64 ((b : Int) - (a : Int)) = ((b - a : Nat) : Int) := by rw [sw64 (by omega) (by omega)];omega
 have e2 : wrap64 (Int.tdiv (wrap64 (((b - a : Nat) : Int) - 1)) 2) = (((b - a - 1) / 2 + 1 : Nat) : Int) - 1 := by
  rw [sw64 (n := ((b - a : Nat) : Int) - 1) (by omega) (by omega),Int.tdiv_eq_ediv_of_nonneg (by omega),sw64 (by omega) (by omega)];omega
 unfold slices_heapSortOrdered_uint64.f heapSort
 rw [e1,e2]
 exact h
theorem pins_l1 (a b : Nat) (hb : b < 1099511627776) (h50 : b - a < 50) : ∀ (n i : Nat) (l : List Int) (q : Int),b ≤ i + n → 1 ≤ i → i ≤ b → b ≤ l.length → a ≤ b →
  Ev (fun k => slices_partialInsertionSortOrdered_uint64.l1 k l (a : Int) (b : Int) (i : Int) q) (decide (scanSorted ltInt l.toArray b i = b),l)
 | n,i,l,q,hn,hi,hib,hbl,hab => by
  have hend : ∀ i : Nat,i ≤ b → Ev (fun k => slices_partialInsertionSortOrdered_uint64.j2 k l (a : Int) (b : Int) (i : Int) q) (decide (i = b),l) := by
   intro i hi
   refine Ev.step (fun k => ?_) (Ev.now _)
   simp only [slices_partialInsertionSortOrdered_uint64.j2]
   by_cases h : i = b
   ·rw [if_pos (by omega),decide_eq_true h]
   ·rw [if_neg (by omega),if_pos (by rw [sw64 (by omega) (by omega)];omega),decide_eq_false h]
  rw [scanSorted]
  by_cases hlt : i < b
  ·have e1 : wrap64 ((i : Int) - 1) = ((i - 1 : Nat) : Int) := by rw [sw64 (by omega) (by omega)];omega
   cases hc : ltInt l.toArray[i]! l.toArray[i - 1]! with
   | true =>
    rw [if_neg (by rw [Bool.not_true,Bool.and_false];decide)]
    refine Ev.step (fun k => ?_) (hend i hib)
    simp only [slices_partialInsertionSortOrdered_uint64.l1,e1]
    rw [if_pos (by omega),if_pos (by omega),if_pos (by omega),if_pos (by omega),if_pos (by omega),sless,srd,srd,hc,Option.bind_some,if_pos rfl]
   | false =>
    rw [if_pos (by rw [decide_eq_true hlt];rfl)]
    cases n with
    | zero => omega
    | succ n =>
     have e2 : wrap64 ((i : Int) + 1) = ((i + 1 : Nat) : Int) := by rw [sw64 (by omega) (by omega)];omega
     refine Ev.step (fun k => ?_) (pins_l1 a b hb h50 n (i + 1) l q (by omega) (by omega) (by omega) hbl hab)
     simp only [slices_partialInsertionSortOrdered_uint64.l1,e1,e2]
     rw [if_pos (by omega),if_pos (by omega),if_pos (by omega),if_pos (by omega),if_pos (by omega),sless,srd,srd,hc,Option.bind_some,if_neg (by decide)]
  ·rw [if_neg (fun h => hlt (of_decide_eq_true (Bool.and_eq_true_iff.1 h).1))]
   refine Ev.step (fun k => ?_) (hend i hib)
   simp only [slices_partialInsertionSortOrdered_uint64.l1]
   rw [if_neg (by omega)]
theorem partialIns_small (a b : Nat) (d : Array Int) (h50 : b - a < 50) : partialInsertionSort ltInt d a b = (d,decide (scanSorted ltInt d b (a + 1) = b)) := by
 unfold partialInsertionSort
 rw [partialIns]
 by_cases h : scanSorted ltInt d b (a + 1) = b
 ·rw [if_pos h,decide_eq_true h]
 ·rw [if_neg h,if_pos h50,decide_eq_false h]
theorem pins_ev (a b : Nat) (l : List Int) (hab : a < b) (hbl : b ≤ l.length) (hl : l.length < 1099511627776) (h50 : b - a < 50) :
  Ev (fun k => slices_partialInsertionSortOrdered_uint64.f k l (a : Int) (b : Int)) ((partialInsertionSort ltInt l.toArray a b).2,(partialInsertionSort ltInt l.toArray a b).1.toList) := by
 rw [partialIns_small a b _ h50]
 have e2 : wrap64 ((a : Int) + 1) = ((a + 1 : Nat) : Int) := by rw [sw64 (by omega) (by omega)];omega
 have h := pins_l1 a b (by omega) h50 b (a + 1) l 0 (by omega) (by omega) (by omega) hbl (by omega)
 unfold slices_partialInsertionSortOrdered_uint64.f
 rw [e2]
 refine Ev.step (fun k => ?_) h
 simp only [slices_partialInsertionSortOrdered_uint64.l0]
 rw [if_pos (by omega)]
theorem su_step (p : Int → Bool) (d : Array Int) (j i : Nat) (h : i ≤ j) (hp : p d[i]! = true) : scanUp p d j i = scanUp p d j (i + 1) := by
 rw [scanUp,if_pos (by rw [decide_eq_true h,hp];rfl)]
theorem su_stop (p : Int → Bool) (d : Array Int) (j i : Nat) (h : ¬ (i ≤ j ∧ p d[i]! = true)) : scanUp p d j i = i := by
 rw [scanUp,if_neg (fun hx => h ⟨of_decide_eq_true (Bool.and_eq_true_iff.1 hx).1,(Bool.and_eq_true_iff.1 hx).2⟩)]
theorem sd_step (p : Int → Bool) (d : Array Int) (i j : Nat) (h : i ≤ j + 1) (hp : p d[j + 1]! = true) : scanDown p d i (j + 1) = scanDown p d i j := by
 rw [scanDown,if_pos (by rw [decide_eq_true h,hp];rfl)]
theorem sd_stop (p : Int → Bool) (d : Array Int) (i j : Nat) (hi : 1 ≤ i) (h : ¬ (i ≤ j ∧ p d[j]! = true)) : scanDown p d i j = j := by
 cases j with
 | zero => rw [scanDown]
 | succ j => rw [scanDown,if_neg (fun hx => h ⟨of_decide_eq_true (Bool.and_eq_true_iff.1 hx).1,(Bool.and_eq_true_iff.1 hx).2⟩)]
theorem su_ge (p : Int → Bool) (d : Array Int) (j : Nat) : ∀ (n i : Nat),j + 1 ≤ i + n → i ≤ scanUp p d j i ∧ scanUp p d j i ≤ max i (j + 1)
 | 0,i,hn => by rw [su_stop p d j i (by omega)];omega
 | n + 1,i,hn => by
  by_cases h : i ≤ j ∧ p d[i]! = true
  ·rw [su_step p d j i h.1 h.2]
   have := su_ge p d j n (i + 1) (by omega)
   omega
  ·rw [su_stop p d j i h];omega
theorem sd_le (p : Int → Bool) (d : Array Int) (i : Nat) (hi : 1 ≤ i) : ∀ (j : Nat),scanDown p d i j ≤ j ∧ (i ≤ j → i - 1 ≤ scanDown p d i j)
 | 0 => by rw [sd_stop p d i 0 hi (by omega)];omega
 | j + 1 => by
  by_cases h : i ≤ j + 1 ∧ p d[j + 1]! = true
  ·rw [sd_step p d i j h.1 h.2]
   have := sd_le p d i hi j
   by_cases h2 : i ≤ j
   ·omega
   ·have h3 : scanDown p d i j = j := sd_stop p d i j hi (by omega)
    omega
  ·rw [sd_stop p d i (j + 1) hi h];omega
theorem p_less (l : List Int) (i a : Nat) : ltInt (rd l (i : Int)) (rd l (a : Int)) = ltInt l.toArray[i]! l.toArray[a]! := by rw [srd,srd]
theorem part_l1 {R : Int × Bool × List Int} (a i : Nat) (hi : 1 ≤ i) (l : List Int) (ha : a < l.length) (hl : l.length < 1099511627776) : ∀ (j : Nat),j < l.length →
  Ev (fun k => slices_partitionOrdered_uint64.j3 k l (a : Int) (i : Int) ((scanDown (fun x => !ltInt x l.toArray[a]!) l.toArray i j : Nat) : Int)) R →
  Ev (fun k => slices_partitionOrdered_uint64.l1 k l (a : Int) (i : Int) (j : Int)) R
 | j,hj,h => by
  by_cases hc : i ≤ j ∧ (!ltInt l.toArray[j]! l.toArray[a]!) = true
  ·obtain ⟨j,rfl⟩ : ∃ j',j = j' + 1 := ⟨j - 1,by omega⟩
   rw [sd_step _ _ _ _ hc.1 hc.2] at h
   have e1 : wrap64 (((j + 1 : Nat) : Int) - 1) = (j : Int) := by rw [sw64 (by omega) (by omega)];omega
   refine Ev.step (fun k => ?_) (part_l1 a i hi l ha hl j (by omega) h)
   simp only [slices_partitionOrdered_uint64.l1]
   rw [if_pos (by omega),if_pos (by omega),if_pos (by omega),if_pos (by omega),if_pos (by omega),sless,p_less,show ltInt l.toArray[j + 1]! l.toArray[a]! = false from by simpa using hc.2,Option.bind_some,if_neg (by decide),e1]
  ·rw [sd_stop _ _ _ _ hi hc] at h
   refine Ev.step (fun k => ?_) h
   simp only [slices_partitionOrdered_uint64.l1]
   by_cases hij : i ≤ j
   ·have hb : ltInt l.toArray[j]! l.toArray[a]! = true := by
     cases hb : ltInt l.toArray[j]! l.toArray[a]! with
     | true => rfl
     | false => exact absurd ⟨hij,by rw [hb];rfl⟩ hc
    rw [if_pos (by omega),if_pos (by omega),if_pos (by omega),if_pos (by omega),if_pos (by omega),sless,p_less,hb,Option.bind_some,if_pos rfl]
   ·rw [if_neg (by omega)]
theorem part_l0 {R : Int × Bool × List Int} (a j : Nat) (l : List Int) (ha : a < l.length) (hj : j < l.length) (hl : l.length < 1099511627776) : ∀ (n i : Nat),j + 1 ≤ i + n → 1 ≤ i →
  Ev (fun k => slices_partitionOrdered_uint64.j3 k l (a : Int) ((scanUp (fun x => ltInt x l.toArray[a]!) l.toArray j i : Nat) : Int) ((scanDown (fun x => !ltInt x l.toArray[a]!) l.toArray (scanUp (fun x => ltInt x l.toArray[a]!) l.toArray j i) j : Nat) : Int)) R →
  Ev (fun k => slices_partitionOrdered_uint64.l0 k l (a : Int) (i : Int) (j : Int)) R
 | n,i,hn,hi,h => by
  by_cases hc : i ≤ j ∧ ltInt l.toArray[i]! l.toArray[a]! = true
  ·cases n with
   | zero => omega
   | succ n =>
    rw [su_step _ _ _ _ hc.1 hc.2] at h
    have e1 : wrap64 ((i : Int) + 1) = ((i + 1 : Nat) : Int) := by rw [sw64 (by omega) (by omega)];omega
    refine Ev.step (fun k => ?_) (part_l0 a j l ha hj hl n (i + 1) (by omega) (by omega) h)
    simp only [slices_partitionOrdered_uint64.l0]
    rw [if_pos (by omega),if_pos (by omega),if_pos (by omega),if_pos (by omega),if_pos (by omega),sless,p_less,hc.2,Option.bind_some,if_pos rfl,e1]
  ·rw [su_stop _ _ _ _ hc] at h
   have h1 := part_l1 a i hi l ha hl j hj h
   have h2 : Ev (fun k => slices_partitionOrdered_uint64.j1 k l (a : Int) (i : Int) (j : Int)) R := Ev.step (fun k => by simp only [slices_partitionOrdered_uint64.j1]) h1
   refine Ev.step (fun k => ?_) h2
   simp only [slices_partitionOrdered_uint64.l0]
   by_cases hij : i ≤ j
   ·have hb : ltInt l.toArray[i]! l.toArray[a]! = false := by
     cases hb : ltInt l.toArray[i]! l.toArray[a]! with
     | false => rfl
     | true => exact absurd ⟨hij,hb⟩ hc
    rw [if_pos (by omega),if_pos (by omega),if_pos (by omega),if_pos (by omega),if_pos (by omega),sless,p_less,hb,Option.bind_some,if_neg (by decide)]
   ·rw [if_neg (by omega)]
def partEnd (k : Nat) (l : List Int) (a i j : Int) : Option (Int × Bool × List Int) :=
 if i > j then (if 0 ≤ a then (if a < (l.length : Int) then (if 0 ≤ j then (if j < (l.length : Int) then (some (j,false,((l.set (j : Int).toNat (rd l a)).set (a : Int).toNat (rd l j)))) else (none)) else (none)) else (none)) else (none))
 else (if 0 ≤ j then (if j < (l.length : Int) then (if 0 ≤ i then (if i < (l.length : Int) then (slices_partitionOrdered_uint64.l2 k ((l.set (i : Int).toNat (rd l j)).set (j : Int).toNat (rd l i)) a (wrap64 (i + 1)) (wrap64 (j - 1))) else (none)) else (none)) else (none)) else (none))
theorem part_l4 {R : Int × Bool × List Int} (a i : Nat) (hi : 1 ≤ i) (l : List Int) (ha : a < l.length) (hl : l.length < 1099511627776) : ∀ (j : Nat),j < l.length →
  Ev (fun k => partEnd k l (a : Int) (i : Int) ((scanDown (fun x => !ltInt x l.toArray[a]!) l.toArray i j : Nat) : Int)) R →
  Ev (fun k => slices_partitionOrdered_uint64.l4 k l (a : Int) (i : Int) (j : Int)) R
 | j,hj,h => by
  by_cases hc : i ≤ j ∧ (!ltInt l.toArray[j]! l.toArray[a]!) = true
  ·obtain ⟨j,rfl⟩ : ∃ j',j = j' + 1 := ⟨j - 1,by omega⟩
   rw [sd_step _ _ _ _ hc.1 hc.2] at h
   have e1 : wrap64 (((j + 1 : Nat) : Int) - 1) = (j : Int) := by rw [sw64 (by omega) (by omega)];omega
   refine Ev.step (fun k => ?_) (part_l4 a i hi l ha hl j (by omega) h)
   simp only [slices_partitionOrdered_uint64.l4]
   rw [if_pos (by omega),if_pos (by omega),if_pos (by omega),if_pos (by omega),if_pos (by omega),sless,p_less,show ltInt l.toArray[j + 1]! l.toArray[a]! = false from by simpa using hc.2,Option.bind_some,if_neg (by decide),e1]
  ·rw [sd_stop _ _ _ _ hi hc] at h
   refine Ev.step (fun k => ?_) h
   simp only [slices_partitionOrdered_uint64.l4]
   unfold partEnd
   by_cases hij : i ≤ j
   ·have hb : ltInt l.toArray[j]! l.toArray[a]! = true := by
     cases hb : ltInt l.toArray[j]! l.toArray[a]! with
     | true => rfl
     | false => exact absurd ⟨hij,by rw [hb];rfl⟩ hc
    rw [if_pos (by omega),if_pos (by omega),if_pos (by omega),if_pos (by omega),if_pos (by omega),sless,p_less,hb,Option.bind_some,if_pos rfl]
    have g1 : ¬ ((i : Int) > (j : Int)) := by omega
    have g2 : (0 : Int) ≤ (j : Int) := by omega
    have g3 : (j : Int) < (l.length : Int) := by omega
    simp only [if_neg g1,if_pos g2,if_pos g3]
   ·rw [if_neg (by omega)]
theorem part_l3 {R : Int × Bool × List Int} (a j : Nat) (l : List Int) (ha : a < l.length) (hj : j < l.length) (hl : l.length < 1099511627776) : ∀ (n i : Nat),j + 1 ≤ i + n → 1 ≤ i →
  Ev (fun k => partEnd k l (a : Int) ((scanUp (fun x => ltInt x l.toArray[a]!) l.toArray j i : Nat) : Int) ((scanDown (fun x => !ltInt x l.toArray[a]!) l.toArray (scanUp (fun x => ltInt x l.toArray[a]!) l.toArray j i) j : Nat) : Int)) R →
  Ev (fun k => slices_partitionOrdered_uint64.l3 k l (a : Int) (i : Int) (j : Int)) R
 | n,i,hn,hi,h => by
  by_cases hc : i ≤ j ∧ ltInt l.toArray[i]! l.toArray[a]! = true
  ·cases n with
   | zero => omega
   | succ n =>
    rw [su_step _ _ _ _ hc.1 hc.2] at h
    have e1 : wrap64 ((i : Int) + 1) = ((i + 1 : Nat) : Int) := by rw [sw64 (by omega) (by omega)];omega
    refine Ev.step (fun k => ?_) (part_l3 a j l ha hj hl n (i + 1) (by omega) (by omega) h)
    simp only [slices_partitionOrdered_uint64.l3]
    rw [if_pos (by omega),if_pos (by omega),if_pos (by omega),if_pos (by omega),if_pos (by omega),sless,p_less,hc.2,Option.bind_some,if_pos rfl,e1]
  ·rw [su_stop _ _ _ _ hc] at h
   have h1 := part_l4 a i hi l ha hl j hj h
   have h2 : Ev (fun k => slices_partitionOrdered_uint64.j6 k l (a : Int) (i : Int) (j : Int)) R := Ev.step (fun k => by simp only [slices_partitionOrdered_uint64.j6]) h1
   refine Ev.step (fun k => ?_) h2
   simp only [slices_partitionOrdered_uint64.l3]
   by_cases hij : i ≤ j
   ·have hb : ltInt l.toArray[i]! l.toArray[a]! = false := by
     cases hb : ltInt l.toArray[i]! l.toArray[a]! with
     | false => rfl
     | true => exact absurd ⟨hij,hb⟩ hc
    rw [if_pos (by omega),if_pos (by omega),if_pos (by omega),if_pos (by omega),if_pos (by omega),sless,p_less,hb,Option.bind_some,if_neg (by decide)]
   ·rw [if_neg (by omega)]
theorem w_succ {n : Nat} (h : n < 1099511627776) : wrap64 ((n : Int) + 1) = ((n + 1 : Nat) : Int) := by rw [sw64 (by omega) (by omega)];omega
theorem w_pred {n : Nat} (h : n < 1099511627776) (h1 : 1 ≤ n) : wrap64 ((n : Int) - 1) = ((n - 1 : Nat) : Int) := by rw [sw64 (by omega) (by omega)];omega
theorem part_end {X : Int × Bool × List Int} (a i2 j2 : Nat) (l : List Int) (ha : a < l.length) (hj : j2 < l.length) (hi : 1 ≤ i2) (hl : l.length < 1099511627776)
  (hrec : ¬ i2 > j2 → Ev (fun k => slices_partitionOrdered_uint64.l2 k ((l.set i2 (rd l (j2 : Int))).set j2 (rd l (i2 : Int))) (a : Int) ((i2 + 1 : Nat) : Int) ((j2 - 1 : Nat) : Int)) X) :
  Ev (fun k => partEnd k l (a : Int) (i2 : Int) (j2 : Int)) (if i2 > j2 then ((j2 : Int),false,(swp l.toArray j2 a).toList) else X) := by
 by_cases hgt : i2 > j2
 ·rw [if_pos hgt]
  refine (Ev.now _).congr (fun k => ?_)
  unfold partEnd
  rw [if_pos (by omega),if_pos (by omega),if_pos (by omega),if_pos (by omega),if_pos (by omega),tl_swp,Int.toNat_natCast,Int.toNat_natCast]
 ·rw [if_neg hgt]
  refine (hrec hgt).congr (fun k => ?_)
  unfold partEnd
  rw [if_neg (by omega),if_pos (by omega),if_pos (by omega),if_pos (by omega),if_pos (by omega),w_succ (by omega),w_pred (by omega) (by omega),Int.toNat_natCast,Int.toNat_natCast]
theorem partLoop_eq (a i j i2 j2 : Nat) (d : Array Int) (h2 : i2 = scanUp (fun x => ltInt x d[a]!) d j i) (h3 : j2 = scanDown (fun x => !ltInt x d[a]!) d i2 j) (hi : 1 ≤ i) :
  partLoop ltInt a i j d = if i2 > j2 then (j2,d) else partLoop ltInt a (i2 + 1) (j2 - 1) (swp d i2 j2) := by
 have b1 := (su_ge (fun x => ltInt x d[a]!) d j (j + 1) i (by omega)).1
 have b2 := (sd_le (fun x => !ltInt x d[a]!) d i2 (by rw [h2];exact Nat.le_trans hi b1) j).1
 rw [← h2] at b1
 rw [← h3] at b2
 rw [partLoop]
 simp only [← h2,← h3]
 clear h2 h3
 by_cases hgt : i2 > j2
 ·rw [if_pos hgt,if_pos hgt]
 ·rw [if_neg hgt,if_neg hgt,dif_pos (by omega)]
theorem part_l2 (a : Nat) : ∀ (n i j : Nat) (l : List Int),j + 1 ≤ i + n → 1 ≤ i → a < l.length → j < l.length → l.length < 1099511627776 →
  Ev (fun k => slices_partitionOrdered_uint64.l2 k l (a : Int) (i : Int) (j : Int)) (((partLoop ltInt a i j l.toArray).1 : Int),false,(swp (partLoop ltInt a i j l.toArray).2 (partLoop ltInt a i j l.toArray).1 a).toList) := by
 intro n
 induction n with
 | zero =>
  intro i j l hn hi ha hj hl
  have h1 : scanUp (fun x => ltInt x l.toArray[a]!) l.toArray j i = i := su_stop _ _ _ _ (by omega)
  have h2 : scanDown (fun x => !ltInt x l.toArray[a]!) l.toArray i j = j := sd_stop _ _ _ _ hi (by omega)
  rw [partLoop_eq a i j i j _ h1.symm h2.symm hi,if_pos (by omega)]
  have he := part_end (X := ((j : Int),false,(swp l.toArray j a).toList)) a i j l ha hj hi hl (fun h => absurd h (by omega))
  rw [if_pos (by omega)] at he
  have h3 := part_l3 (R := ((j : Int),false,(swp l.toArray j a).toList)) a j l ha hj hl (j + 1) i (by omega) hi (by rw [h1,h2];exact he)
  exact Ev.step (fun k => by simp only [slices_partitionOrdered_uint64.l2]) h3
 | succ n ih =>
  intro i j l hn hi ha hj hl
  obtain ⟨i2,hi2⟩ : ∃ x,x = scanUp (fun x => ltInt x l.toArray[a]!) l.toArray j i := ⟨_,rfl⟩
  obtain ⟨j2,hj2⟩ : ∃ x,x = scanDown (fun x => !ltInt x l.toArray[a]!) l.toArray i2 j := ⟨_,rfl⟩
  have b1 := (su_ge (fun x => ltInt x l.toArray[a]!) l.toArray j (j + 1) i (by omega)).1
  rw [← hi2] at b1
  have b2 := (sd_le (fun x => !ltInt x l.toArray[a]!) l.toArray i2 (Nat.le_trans hi b1) j).1
  rw [← hj2] at b2
  have hp := partLoop_eq a i j i2 j2 _ hi2 hj2 hi
  have hS : ∀ R,Ev (fun k => partEnd k l (a : Int) (i2 : Int) (j2 : Int)) R → Ev (fun k => slices_partitionOrdered_uint64.l3 k l (a : Int) (i : Int) (j : Int)) R := fun R h => by
   rw [hi2,hj2,hi2] at h
   exact part_l3 a j l ha hj hl (j + 1) i (by clear hi2 hj2 h hp;omega) hi h
  clear hi2 hj2
  rw [hp]
  clear hp
  refine Ev.step (fun k => by simp only [slices_partitionOrdered_uint64.l2]) (hS _ ?_)
  have hl' := slen l i2 j2 (rd l (j2 : Int)) (rd l (i2 : Int))
  have he := part_end a i2 j2 l ha (by omega) (by omega) hl (fun hgt => ih (i2 + 1) (j2 - 1) ((l.set i2 (rd l (j2 : Int))).set j2 (rd l (i2 : Int))) (by omega) (by omega) (by omega) (by omega) (by omega))
  rw [sswp] at he
  by_cases hgt : i2 > j2
  ·rw [if_pos hgt] at he ⊢;exact he
  ·rw [if_neg hgt] at he ⊢;exact he
theorem part_j3 {X : Int × Bool × List Int} (a i2 j2 : Nat) (l : List Int) (ha : a < l.length) (hj : j2 < l.length) (hi : 1 ≤ i2) (hl : l.length < 1099511627776)
  (hrec : ¬ i2 > j2 → Ev (fun k => slices_partitionOrdered_uint64.l2 k ((l.set i2 (rd l (j2 : Int))).set j2 (rd l (i2 : Int))) (a : Int) ((i2 + 1 : Nat) : Int) ((j2 - 1 : Nat) : Int)) X) :
  Ev (fun k => slices_partitionOrdered_uint64.j3 k l (a : Int) (i2 : Int) (j2 : Int)) (if i2 > j2 then ((j2 : Int),true,(swp l.toArray j2 a).toList) else X) := by
 by_cases hgt : i2 > j2
 ·rw [if_pos hgt]
  refine Ev.step (fun k => ?_) (Ev.now _)
  simp only [slices_partitionOrdered_uint64.j3]
  rw [if_pos (by omega),if_pos (by omega),if_pos (by omega),if_pos (by omega),if_pos (by omega),tl_swp,Int.toNat_natCast,Int.toNat_natCast]
 ·rw [if_neg hgt]
  refine Ev.step (fun k => ?_) (hrec hgt)
  simp only [slices_partitionOrdered_uint64.j3]
  rw [if_neg (by omega),if_pos (by omega),if_pos (by omega),if_pos (by omega),if_pos (by omega),w_succ (by omega),w_pred (by omega) (by omega),Int.toNat_natCast,Int.toNat_natCast]
theorem partition_eq (a b pv i2 j2 : Nat) (d m : Array Int) (hm : m = swp d a pv) (h2 : i2 = scanUp (fun x => ltInt x m[a]!) m (b - 1) (a + 1)) (h3 : j2 = scanDown (fun x => !ltInt x m[a]!) m i2 (b - 1)) :
  Go.Sort.partition ltInt d a b pv = if i2 > j2 then (j2,true,swp m j2 a) else ((partLoop ltInt a (i2 + 1) (j2 - 1) (swp m i2 j2)).1,false,swp (partLoop ltInt a (i2 + 1) (j2 - 1) (swp m i2 j2)).2 (partLoop ltInt a (i2 + 1) (j2 - 1) (swp m i2 j2)).1 a) := by
 unfold Go.Sort.partition
 simp only [← hm,← h2,← h3]
theorem part_ev (a b pv : Nat) (l : List Int) (hab : a + 1 < b) (hp1 : a ≤ pv) (hp2 : pv < b) (hbl : b ≤ l.length) (hl : l.length < 1099511627776) :
  Ev (fun k => slices_partitionOrdered_uint64.f k l (a : Int) (b : Int) (pv : Int)) (((Go.Sort.partition ltInt l.toArray a b pv).1 : Int),(Go.Sort.partition ltInt l.toArray a b pv).2.1,(Go.Sort.partition ltInt l.toArray a b pv).2.2.toList) := by
 obtain ⟨m,hm⟩ : ∃ m,m = (l.set a (rd l (pv : Int))).set pv (rd l (a : Int)) := ⟨_,rfl⟩
 have hml : m.length = l.length := by rw [hm,slen]
 have hma : m.toArray = swp l.toArray a pv := by rw [hm,sswp]
 have hstart : ∀ R,Ev (fun k => slices_partitionOrdered_uint64.l0 k m (a : Int) ((a + 1 : Nat) : Int) ((b - 1 : Nat) : Int)) R → Ev (fun k => slices_partitionOrdered_uint64.f k l (a : Int) (b : Int) (pv : Int)) R := fun R h => by
  refine h.congr (fun k => ?_)
  unfold slices_partitionOrdered_uint64.f
  rw [if_pos (by omega),if_pos (by omega),if_pos (by omega),if_pos (by omega),w_succ (by omega),w_pred (by omega) (by omega),hm,Int.toNat_natCast,Int.toNat_natCast]
 clear hm
 obtain ⟨i2,hi2⟩ : ∃ x,x = scanUp (fun x => ltInt x m.toArray[a]!) m.toArray (b - 1) (a + 1) := ⟨_,rfl⟩
 obtain ⟨j2,hj2⟩ : ∃ x,x = scanDown (fun x => !ltInt x m.toArray[a]!) m.toArray i2 (b - 1) := ⟨_,rfl⟩
 have b1 := (su_ge (fun x => ltInt x m.toArray[a]!) m.toArray (b - 1) b (a + 1) (by omega)).1
 rw [← hi2] at b1
 have b2 := (sd_le (fun x => !ltInt x m.toArray[a]!) m.toArray i2 (Nat.le_trans (Nat.le_add_left 1 a) b1) (b - 1)).1
 rw [← hj2] at b2
 have hp := partition_eq a b pv i2 j2 l.toArray m.toArray hma hi2 hj2
 have hS : ∀ R,Ev (fun k => slices_partitionOrdered_uint64.j3 k m (a : Int) (i2 : Int) (j2 : Int)) R → Ev (fun k => slices_partitionOrdered_uint64.l0 k m (a : Int) ((a + 1 : Nat) : Int) ((b - 1 : Nat) : Int)) R := fun R h => by
  rw [hi2,hj2,hi2] at h
  exact part_l0 a (b - 1) m (by clear hi2 hj2 h hp;omega) (by clear hi2 hj2 h hp;omega) (by clear hi2 hj2 h hp;omega) b (a + 1) (by clear hi2 hj2 h hp;omega) (by clear hi2 hj2 h hp;omega) h
 clear hi2 hj2 hma
 rw [hp]
 clear hp
 refine hstart _ (hS _ ?_)
 clear hstart hS
 have hl' := slen m i2 j2 (rd m (j2 : Int)) (rd m (i2 : Int))
 have he := part_j3 a i2 j2 m (by omega) (by omega) (by omega) (by omega) (fun hgt => part_l2 a b (i2 + 1) (j2 - 1) ((m.set i2 (rd m (j2 : Int))).set j2 (rd m (i2 : Int))) (by omega) (by omega) (by omega) (by omega) (by omega))
 rw [sswp] at he
 by_cases hgt : i2 > j2
 ·rw [if_pos hgt] at he ⊢;exact he
 ·rw [if_neg hgt] at he ⊢;exact he
def peqEnd (k : Nat) (l : List Int) (a i j : Int) : Option (Int × List Int) :=
 if i > j then (some (i,l)) else (if 0 ≤ j then (if j < (l.length : Int) then (if 0 ≤ i then (if i < (l.length : Int) then (slices_partitionEqualOrdered_uint64.l0 k ((l.set (i : Int).toNat (rd l j)).set (j : Int).toNat (rd l i)) a (wrap64 (i + 1)) (wrap64 (j - 1))) else (none)) else (none)) else (none)) else (none))
theorem peq_l2 {R : Int × List Int} (a i : Nat) (hi : 1 ≤ i) (l : List Int) (ha : a < l.length) (hl : l.length < 1099511627776) : ∀ (j : Nat),j < l.length →
  Ev (fun k => peqEnd k l (a : Int) (i : Int) ((scanDown (fun x => ltInt l.toArray[a]! x) l.toArray i j : Nat) : Int)) R →
  Ev (fun k => slices_partitionEqualOrdered_uint64.l2 k l (a : Int) (i : Int) (j : Int)) R
 | j,hj,h => by
  by_cases hc : i ≤ j ∧ ltInt l.toArray[a]! l.toArray[j]! = true
  ·obtain ⟨j,rfl⟩ : ∃ j',j = j' + 1 := ⟨j - 1,by omega⟩
   rw [sd_step _ _ _ _ hc.1 hc.2] at h
   have e1 : wrap64 (((j + 1 : Nat) : Int) - 1) = (j : Int) := by rw [sw64 (by omega) (by omega)];omega
   refine Ev.step (fun k => ?_) (peq_l2 a i hi l ha hl j (by omega) h)
   simp only [slices_partitionEqualOrdered_uint64.l2]
   rw [if_pos (by omega),if_pos (by omega),if_pos (by omega),if_pos (by omega),if_pos (by omega),sless,p_less,hc.2,Option.bind_some,if_pos rfl,e1]
  ·rw [sd_stop _ _ _ _ hi hc] at h
   refine Ev.step (fun k => ?_) h
   simp only [slices_partitionEqualOrdered_uint64.l2]
   unfold peqEnd
   by_cases hij : i ≤ j
   ·have hb : ltInt l.toArray[a]! l.toArray[j]! = false := by
     cases hb : ltInt l.toArray[a]! l.toArray[j]! with
     | false => rfl
     | true => exact absurd ⟨hij,hb⟩ hc
    rw [if_pos (by omega),if_pos (by omega),if_pos (by omega),if_pos (by omega),if_pos (by omega),sless,p_less,hb,Option.bind_some,if_neg (by decide)]
    have g1 : ¬ ((i : Int) > (j : Int)) := by omega
    have g2 : (0 : Int) ≤ (j : Int) := by omega
    have g3 : (j : Int) < (l.length : Int) := by omega
    simp only [if_neg g1,if_pos g2,if_pos g3]
   ·rw [if_neg (by omega)]
theorem peq_l1 {R : Int × List Int} (a j : Nat) (l : List Int) (ha : a < l.length) (hj : j < l.length) (hl : l.length < 1099511627776) : ∀ (n i : Nat),j + 1 ≤ i + n → 1 ≤ i →
  Ev (fun k => peqEnd k l (a : Int) ((scanUp (fun x => !ltInt l.toArray[a]! x) l.toArray j i : Nat) : Int) ((scanDown (fun x => ltInt l.toArray[a]! x) l.toArray (scanUp (fun x => !ltInt l.toArray[a]! x) l.toArray j i) j : Nat) : Int)) R →
  Ev (fun k => slices_partitionEqualOrdered_uint64.l1 k l (a : Int) (i : Int) (j : Int)) R
 | n,i,hn,hi,h => by
  by_cases hc : i ≤ j ∧ (!ltInt l.toArray[a]! l.toArray[i]!) = true
  ·cases n with
   | zero => omega
   | succ n =>
    rw [su_step _ _ _ _ hc.1 hc.2] at h
    have e1 : wrap64 ((i : Int) + 1) = ((i + 1 : Nat) : Int) := by rw [sw64 (by omega) (by omega)];omega
    refine Ev.step (fun k => ?_) (peq_l1 a j l ha hj hl n (i + 1) (by omega) (by omega) h)
    simp only [slices_partitionEqualOrdered_uint64.l1]
    rw [if_pos (by omega),if_pos (by omega),if_pos (by omega),if_pos (by omega),if_pos (by omega),sless,p_less,show ltInt l.toArray[a]! l.toArray[i]! = false from by simpa using hc.2,Option.bind_some,if_neg (by decide),e1]
  ·rw [su_stop _ _ _ _ hc] at h
   have h1 := peq_l2 a i hi l ha hl j hj h
   have h2 : Ev (fun k => slices_partitionEqualOrdered_uint64.j2 k l (a : Int) (i : Int) (j : Int)) R := Ev.step (fun k => by simp only [slices_partitionEqualOrdered_uint64.j2]) h1
   refine Ev.step (fun k => ?_) h2
   simp only [slices_partitionEqualOrdered_uint64.l1]
   by_cases hij : i ≤ j
   ·have hb : ltInt l.toArray[a]! l.toArray[i]! = true := by
     cases hb : ltInt l.toArray[a]! l.toArray[i]! with
     | true => rfl
     | false => exact absurd ⟨hij,by rw [hb];rfl⟩ hc
    rw [if_pos (by omega),if_pos (by omega),if_pos (by omega),if_pos (by omega),if_pos (by omega),sless,p_less,hb,Option.bind_some,if_pos rfl]
   ·rw [if_neg (by omega)]
theorem peq_end {X : Int × List Int} (a i2 j2 : Nat) (l : List Int) (ha : a < l.length) (hj : j2 < l.length) (hi : 1 ≤ i2) (hl : l.length < 1099511627776)
  (hrec : ¬ i2 > j2 → Ev (fun k => slices_partitionEqualOrdered_uint64.l0 k ((l.set i2 (rd l (j2 : Int))).set j2 (rd l (i2 : Int))) (a : Int) ((i2 + 1 : Nat) : Int) ((j2 - 1 : Nat) : Int)) X) :
  Ev (fun k => peqEnd k l (a : Int) (i2 : Int) (j2 : Int)) (if i2 > j2 then ((i2 : Int),l) else X) := by
 by_cases hgt : i2 > j2
 ·rw [if_pos hgt]
  refine (Ev.now _).congr (fun k => ?_)
  unfold peqEnd
  rw [if_pos (by omega)]
 ·rw [if_neg hgt]
  refine (hrec hgt).congr (fun k => ?_)
  unfold peqEnd
  rw [if_neg (by omega),if_pos (by omega),if_pos (by omega),if_pos (by omega),if_pos (by omega),w_succ (by omega),w_pred (by omega) (by omega),Int.toNat_natCast,Int.toNat_natCast]
theorem partEqLoop_eq (a i j i2 j2 : Nat) (d : Array Int) (h2 : i2 = scanUp (fun x => !ltInt d[a]! x) d j i) (h3 : j2 = scanDown (fun x => ltInt d[a]! x) d i2 j) (hi : 1 ≤ i) :
  partEqLoop ltInt a i j d = if i2 > j2 then (i2,d) else partEqLoop ltInt a (i2 + 1) (j2 - 1) (swp d i2 j2) := by
 have b1 := (su_ge (fun x => !ltInt d[a]! x) d j (j + 1) i (by omega)).1
 have b2 := (sd_le (fun x => ltInt d[a]! x) d i2 (by rw [h2];exact Nat.le_trans hi b1) j).1
 rw [← h2] at b1
 rw [← h3] at b2
 rw [partEqLoop]
 simp only [← h2,← h3]
 clear h2 h3
 by_cases hgt : i2 > j2
 ·rw [if_pos hgt,if_pos hgt]
 ·rw [if_neg hgt,if_neg hgt,dif_pos (by omega)]
theorem peq_l0 (a : Nat) : ∀ (n i j : Nat) (l : List Int),j + 1 ≤ i + n → 1 ≤ i → a < l.length → j < l.length → l.length < 1099511627776 →
  Ev (fun k => slices_partitionEqualOrdered_uint64.l0 k l (a : Int) (i : Int) (j : Int)) (((partEqLoop ltInt a i j l.toArray).1 : Int),(partEqLoop ltInt a i j l.toArray).2.toList) := by
 intro n
 induction n with
 | zero =>
  intro i j l hn hi ha hj hl
  have h1 : scanUp (fun x => !ltInt l.toArray[a]! x) l.toArray j i = i := su_stop _ _ _ _ (by omega)
  have h2 : scanDown (fun x => ltInt l.toArray[a]! x) l.toArray i j = j := sd_stop _ _ _ _ hi (by omega)
  rw [partEqLoop_eq a i j i j _ h1.symm h2.symm hi,if_pos (by omega)]
  have he := peq_end (X := ((i : Int),l)) a i j l ha hj hi hl (fun h => absurd h (by omega))
  rw [if_pos (by omega)] at he
  have h3 := peq_l1 (R := ((i : Int),l)) a j l ha hj hl (j + 1) i (by omega) hi (by rw [h1,h2];exact he)
  exact Ev.step (fun k => by simp only [slices_partitionEqualOrdered_uint64.l0]) h3
 | succ n ih =>
  intro i j l hn hi ha hj hl
  obtain ⟨i2,hi2⟩ : ∃ x,x = scanUp (fun x => !ltInt l.toArray[a]! x) l.toArray j i := ⟨_,rfl⟩
  obtain ⟨j2,hj2⟩ : ∃ x,x = scanDown (fun x => ltInt l.toArray[a]! x) l.toArray i2 j := ⟨_,rfl⟩
  have b1 := (su_ge (fun x => !ltInt l.toArray[a]! x) l.toArray j (j + 1) i (by omega)).1
  rw [← hi2] at b1
  have b2 := (sd_le (fun x => ltInt l.toArray[a]! x) l.toArray i2 (Nat.le_trans hi b1) j).1
  rw [← hj2] at b2
  have hp := partEqLoop_eq a i j i2 j2 _ hi2 hj2 hi
  have hS : ∀ R,Ev (fun k => peqEnd k l (a : Int) (i2 : Int) (j2 : Int)) R → Ev (fun k => slices_partitionEqualOrdered_uint64.l1 k l (a : Int) (i : Int) (j : Int)) R := fun R h => by
   rw [hi2,hj2,hi2] at h
   exact peq_l1 a j l ha hj hl (j + 1) i (by clear hi2 hj2 h hp;omega) hi h
  clear hi2 hj2
  rw [hp]
  clear hp
  refine Ev.step (fun k => by simp only [slices_partitionEqualOrdered_uint64.l0]) (hS _ ?_)
  have hl' := slen l i2 j2 (rd l (j2 : Int)) (rd l (i2 : Int))
  have he := peq_end a i2 j2 l ha (by omega) (by omega) hl (fun hgt => ih (i2 + 1) (j2 - 1) ((l.set i2 (rd l (j2 : Int))).set j2 (rd l (i2 : Int))) (by omega) (by omega) (by omega) (by omega) (by omega))
  rw [sswp] at he
  by_cases hgt : i2 > j2
  ·rw [if_pos hgt] at he ⊢;exact he
  ·rw [if_neg hgt] at he ⊢;exact he
theorem peq_ev (a b pv : Nat) (l : List Int) (hab : a + 1 < b) (hp1 : a ≤ pv) (hp2 : pv < b) (hbl : b ≤ l.length) (hl : l.length < 1099511627776) :
  Ev (fun k => slices_partitionEqualOrdered_uint64.f k l (a : Int) (b : Int) (pv : Int)) (((partitionEqual ltInt l.toArray a b pv).1 : Int),(partitionEqual ltInt l.toArray a b pv).2.toList) := by
 have h := peq_l0 a b (a + 1) (b - 1) ((l.set a (rd l (pv : Int))).set pv (rd l (a : Int))) (by omega) (by omega) (by rw [slen];omega) (by rw [slen];omega) (by rw [slen];exact hl)
 rw [sswp] at h
 refine h.congr (fun k => ?_)
 unfold slices_partitionEqualOrdered_uint64.f
 rw [if_pos (by omega),if_pos (by omega),if_pos (by omega),if_pos (by omega),w_succ (by omega),w_pred (by omega) (by omega),Int.toNat_natCast,Int.toNat_natCast]
end
end Go.Proofs.Ytjnkkfdlcbcelaa.Srt
end
section
namespace Go.Proofs.Ytjnkkfdlcbcelaa.Hw
open Go.RowKit Go.Proofs.Ytjnkkfdlcbcelaa.Pr Go.Proofs.YtjnkkfdlcbcelaaW.PrintWords Go.Proofs.YtjnkkfdlcbcelaaW.PrintLast Go.Proofs.YtjnkkfdlcbcelaaW.PrintMore Go.Proofs.Ytjnkkfdlcbcelaa.E
theorem wrapI_id {n : Int} (h0 : -9223372036854775808 ≤ n) (h1 : n < 9223372036854775808) : IntKind.i64.wrap n = n := by rw [IntKind.wrap_i64];omega
theorem C_none {k : IntKind} {w : World} {xs : List Int} (h : Kd.C (Kd.int k) w none xs.length xs) : xs = [] := by
 rcases xs with _|⟨x,xs⟩
 ·rfl
 ·obtain ⟨ad,e,_⟩ := Kd.at_int h 0 (by omega) (by simp)
  cases e
set_option maxHeartbeats 1000000 in
set_option maxRecDepth 100000 in
theorem clone_u64 (A : Option Addr) (c : Nat) (l : List Int) (w : World) (hr : Kd.C (Kd.int .u64) w A l.length l) (hc : l.length ≤ c) (hl : l.length ≤ 1099511627776) :
  Calls Try.prog 67 #[.slice A l.length c] w fun e w' => ∃ v0_ : Value,e = .returned (v0_) ∧ Kd.R (Kd.int .u64) 22 w' w.heap.size (fun _ => True) v0_ l ∧ Below w.heap.size w w' := by
 have HR := Aside0.mk hr
 clear hr
 rcases A with _|a
 ·obtain rfl := C_none HR.out
  have heq : ∀ W : World,(binOp .eql 41 (.slice none 0 c) (.slice none 0 0)).run Try.prog W = .ok (.bool true) W := fun W => Lib.run_eql_slice_nil W 41 22 none 0 c 0 0 Try.underlying41
  go_enter Try.func67,Try.ntmps67
  go_wp2
  go_ret
  exact ⟨_,rfl,Kd.R_nil _ _ _ _ _,Below.refl _ _⟩
 ·have heq : ∀ W : World,(binOp .eql 41 (.slice (some a) l.length c) (.slice none 0 0)).run Try.prog W = .ok (.bool false) W := fun W => Lib.run_eql_slice_nil W 41 22 (some a) l.length c 0 0 Try.underlying41
  go_enter Try.func67,Try.ntmps67
  go_wp2_with (first
   | ((with_reducible refine gate_dst (N := 5) rfl ?_);refine Kd.R_lit (Kd.int .u64) _ 22 ?hg (N := 5) ?hd (xs := ([] : List Int)) (inner := []) (ok := fun _ => True) (okp := fun _ => True) ?hr ?hp (fun _ hk => hk) trivial (Below.refl _ _) (Nat.le_refl _) (by simp) ?_;(case hd => rfl);(case hg => rfl);(case hr => first|(go_simp;done)|(go_simp;rfl));(case hp => exact (Reps.none _ _));intro v1 w1 ho1 hb1 hg1 hn1;clear hg1 hn1;have HO1 := Aside0.mk ho1;have HB1 := Aside0.mk hb1;clear ho1 hb1)
   | ((with_reducible refine gate_builtin (b := .append) (xs := #[.tmp 5,.tmp 6]) rfl ?_);at_builtin;refine Kd.R_append_rows (Kd.int .u64) (w0 := w) w.heap.size rfl (.tmp 5) (.tmp 6) 41 22 (.int .u64 0) 8 rfl Try.underlying41 info22 rfl (by decide) (by omega) v1 [] l _ _ _ (fun _ => True) (fun _ => False) rfl rfl HO1.out (Kd.C_below HR.out HB1.out) (fun _ _ h => h) (fun _ h => h.elim) (fun _ _ => trivial) HB1.out (below_size HB1.out) (by simp;omega) ?_;intro v2 w2 ho2 hb2 hg2 ha2;clear hg2 ha2;have HO2 := Aside0.mk ho2;have HB2 := Aside0.mk hb2;clear ho2 hb2))
  go_ret
  exact ⟨_,rfl,by simpa using HO2.out,HB2.out⟩
set_option maxHeartbeats 1000000 in
set_option maxRecDepth 100000 in
theorem pdq_small (k : Nat) (P0_ : Nat → Prop) (v : Value) (l r : List Int) (L : Int) (hl : l.length ≤ 12) (w0 w : World) (hB : Below w0.heap.size w0 w) (ho : Kd.R (Kd.int .u64) 22 w w0.heap.size P0_ v l)
  (h : slices_insertionSortOrdered_uint64.f k l 0 (l.length : Int) = some r) :
  Calls Try.prog 79 #[v,.int .i64 0,.int .i64 (l.length : Int),.int .i64 L] w fun e w' => e = .returned (.tuple #[]) ∧ Kd.R (Kd.int .u64) 22 w' w0.heap.size (fun k_ => (P0_ k_ ∨ w.heap.size ≤ k_)) v r ∧ Below w0.heap.size w0 w' ∧ Kept w w' (fun k_ => P0_ k_) := by
 have hc := Aside0.mk (slices_insertionSortOrdered_uint64.calls k P0_ v l 0 (l.length : Int) r w0 w hB ho h)
 have hle : decide ((l.length : Int) ≤ 12) = true := decide_eq_true (by omega)
 have hle' : decide (l.length ≤ 12) = true := decide_eq_true hl
 clear hB ho h
 go_enter Try.func79,Try.ntmps79
 go_wp2
 go_loopg [1,2] 0 (fun kq v1 v2 w' => v1 = .int .i64 0 ∧ v2 = .int .i64 (l.length : Int) ∧ w' = w)
 case atStart => exact ⟨rfl,rfl,rfl⟩
 case round =>
  obtain ⟨rfl,rfl,rfl⟩ := hrel
  go_wp2_with (first|(go_at_call 83;(with_reducible refine hc.out.mono ?_);rintro e w' ⟨rfl,h1,h2,h3⟩;have H1 := Aside0.mk h1;have H2 := Aside0.mk h2;have H3 := Aside0.mk h3;clear h1 h2 h3))
  first|go_end0|((try simp only [Exit.inBlock,Exit.then]);refine bodyPost_ret (results_none rfl _ _ _) rfl ?_)
  exact ⟨rfl,H1.out,H2.out,H3.out⟩
set_option maxHeartbeats 1000000 in
set_option maxRecDepth 100000 in
theorem sort_small (k k2 : Nat) (P0_ : Nat → Prop) (A : Option Addr) (c : Nat) (l r : List Int) (L : Int) (hl : l.length ≤ 12) (w0 w : World) (hB : Below w0.heap.size w0 w) (ho : Kd.R (Kd.int .u64) 22 w w0.heap.size P0_ (.slice A l.length c) l)
  (h : slices_insertionSortOrdered_uint64.f k l 0 (l.length : Int) = some r) (hL : bits_Len.f k2 (l.length : Int) = some L) :
  Calls Try.prog 68 #[.slice A l.length c] w fun e w' => e = .returned (.tuple #[]) ∧ Kd.R (Kd.int .u64) 22 w' w0.heap.size (fun _ => True) (.slice A l.length c) r ∧ Below w0.heap.size w0 w' := by
 have HL := Aside0.mk hL
 have HO := Aside0.mk ho
 have HB := Aside0.mk hB
 have HH := Aside0.mk h
 clear hL ho hB h
 go_enter Try.func68,Try.ntmps68
 go_wp2_with (first
  | (go_at_call 80;(refine (bits_Len.calls k2 _ L _ HL.out).mono ?_);rintro e w' ⟨rfl,⟨nd,rfl⟩⟩;have hc := Aside0.mk (pdq_small k P0_ _ l r L hl w0 (w.drewN nd) (pw_below_drewN HB.out nd) (Kd.R_drewN HO.out nd) HH.out))
  | (go_at_call 79;(with_reducible refine hc.out.mono ?_);rintro e w' ⟨rfl,h1,h2,h3⟩;clear h3;have H1 := Aside0.mk h1;have H2 := Aside0.mk h2;clear h1 h2))
 first|go_end0|((try simp only [Exit.inBlock,Exit.then]);refine bodyPost_ret (results_none rfl _ _ _) rfl ?_)
 exact ⟨rfl,Kd.R_mono H1.out (fun _ _ => trivial),H2.out⟩
theorem below_cells {B : Nat} {w W : World} (h : Below B w W) {b : Nat} (hb : B ≤ b) : ∀ (vs : List Value) (o : Nat),Below B w (W.setCells b o vs) := by
 intro vs
 induction vs generalizing W with
 | nil => intro o;exact h
 | cons v vs ih => intro o;exact ih (h.setCell (p := ⟨b,o,none⟩) hb v) _
def Diff (l : List Int) (n : Nat) : Prop := ∀ i,i + 1 < n → rd l ((i : Int) + 1) ≠ rd l (i : Int)
set_option maxHeartbeats 1000000 in
set_option maxRecDepth 100000 in
theorem compact_u64 (A : Option Addr) (c : Nat) (l : List Int) (hl : l.length ≤ 1099511627776) (w0 w : World) (hB : Below w0.heap.size w0 w) (ho : Kd.R (Kd.int .u64) 22 w w0.heap.size (fun _ => True) (.slice A l.length c) l) :
  Calls Try.prog 69 #[.slice A l.length c] w fun e w' => Aside0 (∃ A' m c',e = .returned (.slice A' m c') ∧ (m = l.length ↔ Diff l l.length)) ∧ Below w0.heap.size w0 w' := by
 have HO := Aside0.mk ho
 have HB := Aside0.mk hB
 clear ho hB
 by_cases h2 : l.length < 2
 ·have hd : decide (l.length < 2) = true := decide_eq_true h2
  have hd' : decide ((l.length : Int) < 2) = true := decide_eq_true (by omega)
  go_enter Try.func69,Try.ntmps69
  go_wp2
  first|go_ret|((try simp only [Exit.inBlock,Exit.then]);refine bodyPost_ret (results_tmp rfl _ _ rfl) rfl ?_)
  exact ⟨⟨_,_,_,rfl,⟨fun _ i hi => absurd hi (by omega),fun _ => rfl⟩⟩,HB.out⟩
 ·have hd : decide (l.length < 2) = false := decide_eq_false h2
  have hd' : decide ((l.length : Int) < 2) = false := decide_eq_false (by omega)
  obtain ⟨b,q,hv,hb0,how⟩ := R_open HO.out (by omega)
  cases hv
  have HW := Aside0.mk how
  clear how
  have hcl := own_le HW.out
  go_enter Try.func69,Try.ntmps69
  go_wp2
  go_loopg [3] l.length (fun kq v3 w' => ∃ (j nd : Nat),v3 = .int .i64 ((j + 1 : Nat) : Int) ∧ Aside0 (kq + j + 1 = l.length + 1) ∧ Aside0 (j + 1 ≤ l.length ∧ Diff l (j + 1)) ∧ w' = w.drewN nd)
  case atStart => exact ⟨0,0,rfl,⟨by omega⟩,⟨by omega,fun i hi => absurd hi (by omega)⟩,rfl⟩
  case round =>
   obtain ⟨j,nd,rfl,HK,HD,rfl⟩ := hrel
   by_cases hlt : j + 1 < l.length
   ·have c1 := (own_at HW.out (j : Int) (by omega) (by omega)).1
    have c2 := (own_at HW.out ((j : Int) + 1) (by omega) (by omega)).1
    rw [Int.toNat_natCast] at c1
    rw [show ((j : Int) + 1).toNat = j + 1 from by omega] at c2
    have t1 : decide ((j : Int) + 1 < (l.length : Int)) = true := decide_eq_true (by omega)
    have p1 : ((0 : Int) ≤ (j : Int)) = True := eq_true (by omega)
    have p2 : ((j : Int) < (l.length : Int)) = True := eq_true (by omega)
    have p3 : ((0 : Int) ≤ (j : Int) + 1) = True := eq_true (by omega)
    have p4 : ((j : Int) + 1 < (l.length : Int)) = True := eq_true (by omega)
    by_cases he : rd l ((j : Int) + 1) = rd l (j : Int)
    ·have e1 : (rd l ((j : Int) + 1) == rd l (j : Int)) = true := beq_iff_eq.mpr he
     have HE := Aside0.mk he
     clear he
     go_wp2_with fail
     go_quiet (fail)
     go_wp2
     obtain ⟨N2,hN2⟩ : ∃ y,y = l.length - (j + 1) := ⟨_,rfl⟩
     obtain ⟨C2,hC2⟩ : ∃ y,y = c - (j + 1) := ⟨_,rfl⟩
     rw [← hN2,← hC2]
     have HN := Aside0.mk hN2
     have HC := Aside0.mk hC2
     clear hN2 hC2 c1 c2 t1 p1 p2 p3 p4 e1
     go_loopg [3,5] N2 (fun kq v3 v5 w' => ∃ (k m : Nat) (l' : List Int),v3 = .int .i64 (k : Int) ∧ v5 = .int .i64 ((m + 1 : Nat) : Int) ∧ Aside0 (kq + m = N2) ∧ Aside0 (1 ≤ k ∧ k ≤ j + 1 + m ∧ m + 1 ≤ N2) ∧ Aside0 (w'.ownsRow w0.heap.size 22 1 (.slice (some ⟨b,0,none⟩) l.length c) l.length (nums .u64 l')) ∧ Aside0 (Below w0.heap.size w0 w'))
     case atStart => exact ⟨j + 1,0,l,rfl,rfl,⟨by omega⟩,⟨by omega,by omega,by have := HN.out;omega⟩,⟨pw_own_drewN HW.out _⟩,⟨pw_below_drewN HB.out _⟩⟩
     case round =>
      obtain ⟨k,m,l',rfl,rfl,HK2,HM,HW2,HB2⟩ := hrel
      have hk1 := HM.out.1
      have hk2 := HM.out.2.1
      have hm2 := HM.out.2.2
      have hn2 := HN.out
      by_cases hlt2 : m + 1 < N2
      ·have c1 := (own_at HW2.out ((j + 1 + (m + 1) : Nat) : Int) (by omega) (by omega)).1
       have c2 := (own_at HW2.out ((j + 1 + m : Nat) : Int) (by omega) (by omega)).1
       obtain ⟨c3,f3⟩ := own_at HW2.out (k : Int) (by omega) (by omega)
       rw [Int.toNat_natCast] at c1 c2 c3 f3
       have t1 : decide ((m : Int) + 1 < (N2 : Int)) = true := decide_eq_true (by omega)
       have t2 : decide (m + 1 < N2) = true := decide_eq_true (by omega)
       have p1 : ((0 : Int) ≤ (m : Int)) = True := eq_true (by omega)
       have p2 : ((m : Int) < (N2 : Int)) = True := eq_true (by omega)
       have p3 : ((0 : Int) ≤ (m : Int) + 1) = True := eq_true (by omega)
       have p4 : ((m : Int) + 1 < (N2 : Int)) = True := eq_true (by omega)
       have p5 : ((0 : Int) ≤ (k : Int)) = True := eq_true (by omega)
       have p6 : ((k : Int) < (l.length : Int)) = True := eq_true (by omega)
       obtain ⟨x,hx⟩ : ∃ x,rd l' ((j + 1 + (m + 1) : Nat) : Int) = x := ⟨_,rfl⟩
       obtain ⟨y,hy⟩ : ∃ y,rd l' ((j + 1 + m : Nat) : Int) = y := ⟨_,rfl⟩
       rw [hx] at c1
       rw [hy] at c2
       have hwm := wrapI_id (n := (m : Int)) (by omega) (by omega)
       have hN2b : N2 ≤ 1099511627776 := by omega
       have hkb : k < l.length := by omega
       clear hx hy hn2
       by_cases he : x = y
       ·have e1 : (x != y) = false := bne_eq_false_iff_eq.mpr he
        clear he
        go_wp2_with fail
        go_quiet (fail)
        clear hwm
        go_wp2
        go_roundg (N2 - (m + 1))
        case measure => have := HK2.out;omega
        case rel => exact ⟨k,m + 1,l',rfl,by go_num,⟨by omega⟩,⟨by omega,by omega,by omega⟩,⟨pw_own_drewN HW2.out _⟩,⟨pw_below_drewN HB2.out _⟩⟩
       ·have e1 : (x != y) = true := bne_iff_ne.mpr he
        clear he
        go_wp2_with fail
        go_quiet (fail)
        clear hwm
        go_wp2
        go_roundg (N2 - (m + 1))
        case measure => have := HK2.out;omega
        case rel => exact ⟨k + 1,m + 1,l'.set k x,by go_num,by go_num,⟨by omega⟩,⟨by omega,by omega,by omega⟩,⟨(own_store (pw_own_drewN HW2.out nq) (k : Int) x).1⟩,⟨(pw_below_drewN HB2.out nq).setCell hb0 _⟩⟩
      ·have t1 : decide ((m : Int) + 1 < (N2 : Int)) = false := decide_eq_false (by omega)
       have t2 : decide (m + 1 < N2) = false := decide_eq_false (by omega)
       have hclr : ∀ ty,(Builtin.clear_ #[41] ty #[.slice (some ⟨b,k,none⟩) (l.length - k) (c - k)]).run Try.prog wr = .ok (.tuple #[]) (wr.setCells b k (List.replicate (l.length - k) (.int .u64 0))) := fun ty =>
        Lib.run_clear_slice wr 41 22 ty (.int .u64 0) Try.underlying41 Try.zeroValue22 rfl rfl b k (l.length - k) (c - k) (by omega)
         (fun j hj => by rw [show k + j = ((k + j : Nat) : Int).toNat from rfl,(own_at HW2.out ((k + j : Nat) : Int) (by omega) (by omega)).1];rfl)
         (fun j hj => by rw [show k + j = ((k + j : Nat) : Int).toNat from rfl,(own_at HW2.out ((k + j : Nat) : Int) (by omega) (by omega)).2])
       go_wp2
       first|go_ret|((try simp only [Exit.inBlock,Exit.then]);refine bodyPost_ret (results_tmp rfl _ _ rfl) rfl ?_)
       refine ⟨⟨_,_,_,rfl,⟨fun h => by omega,fun h => absurd HE.out (h j (by omega))⟩⟩,?_⟩
       exact below_cells HB2.out hb0 _ _
    ·have e1 : (rd l ((j : Int) + 1) == rd l (j : Int)) = false := beq_eq_false_iff_ne.mpr he
     have HE := Aside0.mk he
     clear he
     go_wp2_with fail
     go_quiet (fail)
     go_wp2
     go_roundg (l.length - (j + 1))
     case measure => have := HK.out;omega
     case rel =>
      refine ⟨j + 1,nd + nq,by go_num,⟨by omega⟩,⟨by omega,fun i hi => ?_⟩,by simp [World.drewN_drewN]⟩
      by_cases hij : i = j
      ·rw [hij];exact HE.out
      ·exact HD.out.2 i (by omega)
   ·have t1 : decide ((j : Int) + 1 < (l.length : Int)) = false := decide_eq_false (by omega)
    go_wp2
    first|go_ret|((try simp only [Exit.inBlock,Exit.then]);refine bodyPost_ret (results_tmp rfl _ _ rfl) rfl ?_)
    exact ⟨⟨_,_,_,rfl,⟨fun _ => by rw [show l.length = j + 1 from by have := HD.out.1;omega];exact HD.out.2,fun _ => rfl⟩⟩,pw_below_drewN HB.out nd⟩
end Go.Proofs.Ytjnkkfdlcbcelaa.Hw
end
section
namespace Go.Proofs.Ytjnkkfdlcbcelaa.Srt
open Go.RowKit Go.Proofs.Ytjnkkfdlcbcelaa.Pr Go.Proofs.Ytjnkkfdlcbcelaa.Hw Go.Proofs.YtjnkkfdlcbcelaaW.PrintWords Go.Proofs.YtjnkkfdlcbcelaaW.PrintLast Go.Proofs.YtjnkkfdlcbcelaaW.PrintMore Go.Sort
theorem less_calls {x y : Int} {r : Bool} (h : ltInt x y = r) (w : World) : Calls Try.prog 89 #[.int .u64 x,.int .u64 y] w fun e w' => e = .returned (.bool r) ∧ ∃ n,w' = w.drewN n :=
 (cmp_Less_uint64.calls x y r w (by rw [sless,h])).mono fun e w' h => ⟨h.1,h.2.out⟩
set_option maxHeartbeats 2000000 in
set_option maxRecDepth 100000 in
theorem order2_walk (base : Nat) (l : List Int) (g c a b bs s : Nat) (w : World) (ho : w.ownsRow base 22 1 (.slice (some ⟨g,0,none⟩) l.length c) l.length (nums .u64 l)) (ha : a < l.length) (hb : b < l.length)
  (hS : w.heap[bs]? = some (.cells #[.int .i64 (s : Int)] 3 (0,0))) (hs : s < 1000000) :
  Calls Try.prog 99 #[.slice (some ⟨g,0,none⟩) l.length c,.int .i64 (a : Int),.int .i64 (b : Int),.pointer (some ⟨bs,0,none⟩)] w fun e w' =>
   e = .returned (.tuple #[.int .i64 ((order2 ltInt l.toArray a b s).1 : Int),.int .i64 ((order2 ltInt l.toArray a b s).2.1 : Int)]) ∧ Aside0 (w'.heap[bs]? = some (.cells #[.int .i64 ((order2 ltInt l.toArray a b s).2.2 : Int)] 3 (0,0))) ∧ Aside0 (RowKit.Below bs w w') := by
 have cb := (own_at ho (b : Int) (by omega) (by omega)).1
 have ca := (own_at ho (a : Int) (by omega) (by omega)).1
 rw [Int.toNat_natCast] at ca cb
 have HS := Aside0.mk hS
 have cs := blk_cell hS 0
 have fs := blk_frozen hS 0
 simp only [List.getElem?_toArray,List.getElem?_cons_zero] at cs
 have p1 : ((0 : Int) ≤ (a : Int)) = True := eq_true (by omega)
 have p2 : ((a : Int) < (l.length : Int)) = True := eq_true (by omega)
 have p3 : ((0 : Int) ≤ (b : Int)) = True := eq_true (by omega)
 have p4 : ((b : Int) < (l.length : Int)) = True := eq_true (by omega)
 have hq : ltInt (rd l (b : Int)) (rd l (a : Int)) = ltInt l.toArray[b]! l.toArray[a]! := by rw [srd,srd]
 obtain ⟨x,hx⟩ : ∃ x,rd l (b : Int) = x := ⟨_,rfl⟩
 obtain ⟨y,hy⟩ : ∃ y,rd l (a : Int) = y := ⟨_,rfl⟩
 rw [hx] at cb hq
 rw [hy] at ca hq
 clear hx hy hS ho
 cases hc : ltInt l.toArray[b]! l.toArray[a]! with
 | true =>
  have he : order2 ltInt l.toArray a b s = (b,a,s + 1) := by unfold order2;rw [hc,if_pos rfl]
  rw [he]
  rw [hc] at hq
  have HQ := Aside0.mk (fun w => less_calls hq w)
  clear he hq hc
  go_enter Try.func99,Try.ntmps99
  go_wp2
  go_quiet ((refine Calls.quiet_of (HQ.out _)))
  go_wp2
  first|go_ret2|((try simp only [Exit.inBlock,Exit.then]);refine bodyPost_ret (results_tmp2 rfl _ _ _) rfl ?_)
  refine ⟨rfl,⟨?_⟩,⟨?_⟩⟩
  ·exact blk_put (blk_drewN HS.out _) 0 _ (by simp)
  ·exact (pw_below_drewN (RowKit.Below.refl _ _) _).setCell (p := ⟨bs,0,none⟩) (Nat.le_refl _) _
 | false =>
  have he : order2 ltInt l.toArray a b s = (a,b,s) := by unfold order2;rw [hc,if_neg (by decide)]
  rw [he]
  rw [hc] at hq
  have HQ := Aside0.mk (fun w => less_calls hq w)
  clear he hq hc
  go_enter Try.func99,Try.ntmps99
  go_wp2
  go_quiet ((refine Calls.quiet_of (HQ.out _)))
  go_wp2
  first|go_ret2|((try simp only [Exit.inBlock,Exit.then]);refine bodyPost_ret (results_tmp2 rfl _ _ _) rfl ?_)
  exact ⟨rfl,⟨blk_drewN HS.out _⟩,⟨pw_below_drewN (RowKit.Below.refl _ _) _⟩⟩
theorem own_belowB {w w1 : World} {bs base : Nat} {e : TypeId} {g n c : Nat} {xs : List Value} (h : w.ownsRow base e 1 (.slice (some ⟨g,0,none⟩) n c) n xs) (hb : RowKit.Below bs w w1) (hg : g < bs) : w1.ownsRow base e 1 (.slice (some ⟨g,0,none⟩) n c) n xs :=
 own_move h fun k hk => by
  have e : (Value.slice (some ⟨g,0,none⟩) n c).ownBlock = some g := rfl
  rw [e] at hk
  obtain rfl := Option.some.inj hk
  exact hb.block g hg
theorem order2_lt (d : Array Int) {a b n : Nat} (s : Nat) (ha : a < n) (hb : b < n) : (order2 ltInt d a b s).1 < n ∧ (order2 ltInt d a b s).2.1 < n := by
 have := order2_mem ltInt d a b s
 omega
theorem order2_le (d : Array Int) (a b s : Nat) : (order2 ltInt d a b s).2.2 ≤ s + 1 := by unfold order2;split <;> simp
set_option maxHeartbeats 2000000 in
set_option maxRecDepth 100000 in
theorem median_walk (base : Nat) (l : List Int) (g q a b c bs s : Nat) (w : World) (ho : w.ownsRow base 22 1 (.slice (some ⟨g,0,none⟩) l.length q) l.length (nums .u64 l)) (ha : a < l.length) (hb : b < l.length) (hc : c < l.length) (hg : g < bs)
  (hS : w.heap[bs]? = some (.cells #[.int .i64 (s : Int)] 3 (0,0))) (hs : s < 1000) :
  Calls Try.prog 97 #[.slice (some ⟨g,0,none⟩) l.length q,.int .i64 (a : Int),.int .i64 (b : Int),.int .i64 (c : Int),.pointer (some ⟨bs,0,none⟩)] w fun e w' =>
   e = .returned (.int .i64 ((Go.Sort.median ltInt l.toArray a b c s).1 : Int)) ∧ Aside0 (w'.heap[bs]? = some (.cells #[.int .i64 ((Go.Sort.median ltInt l.toArray a b c s).2 : Int)] 3 (0,0))) ∧ Aside0 (RowKit.Below bs w w') := by
 have l1 := order2_lt l.toArray s ha hb
 have s1 := order2_le l.toArray a b s
 have o1 := fun w ho hS => order2_walk base l g q a b bs s w ho ha hb hS (by omega)
 have hm : Go.Sort.median ltInt l.toArray a b c s = ((order2 ltInt l.toArray (order2 ltInt l.toArray a b s).1 (order2 ltInt l.toArray (order2 ltInt l.toArray a b s).2.1 c (order2 ltInt l.toArray a b s).2.2).1 (order2 ltInt l.toArray (order2 ltInt l.toArray a b s).2.1 c (order2 ltInt l.toArray a b s).2.2).2.2).2.1,(order2 ltInt l.toArray (order2 ltInt l.toArray a b s).1 (order2 ltInt l.toArray (order2 ltInt l.toArray a b s).2.1 c (order2 ltInt l.toArray a b s).2.2).1 (order2 ltInt l.toArray (order2 ltInt l.toArray a b s).2.1 c (order2 ltInt l.toArray a b s).2.2).2.2).2.2) := rfl
 rw [hm]
 clear hm
 obtain ⟨r1,e1⟩ : ∃ r,r = order2 ltInt l.toArray a b s := ⟨_,rfl⟩
 rw [← e1] at l1 s1 o1 ⊢
 have l2 := order2_lt l.toArray r1.2.2 l1.2 hc
 have s2 := order2_le l.toArray r1.2.1 c r1.2.2
 have o2 := fun w ho hS => order2_walk base l g q r1.2.1 c bs r1.2.2 w ho l1.2 hc hS (by omega)
 obtain ⟨r2,e2⟩ : ∃ r,r = order2 ltInt l.toArray r1.2.1 c r1.2.2 := ⟨_,rfl⟩
 rw [← e2] at l2 s2 o2 ⊢
 have o3 := fun w ho hS => order2_walk base l g q r1.1 r2.1 bs r2.2.2 w ho l1.1 l2.1 hS (by omega)
 obtain ⟨r3,e3⟩ : ∃ r,r = order2 ltInt l.toArray r1.1 r2.1 r2.2.2 := ⟨_,rfl⟩
 rw [← e3] at o3 ⊢
 obtain ⟨x1,y1,z1⟩ := r1
 obtain ⟨x2,y2,z2⟩ := r2
 obtain ⟨x3,y3,z3⟩ := r3
 dsimp only at o1 o2 o3 ⊢
 have O1 := Aside0.mk (o1 w ho hS)
 have O2 := Aside0.mk o2
 have O3 := Aside0.mk o3
 have HO := Aside0.mk ho
 have HG := Aside0.mk hg
 clear e1 e2 e3 l1 l2 s1 s2 o1 o2 o3 ho hS hg ha hb hc hs
 go_enter Try.func97,Try.ntmps97
 go_wp2_with fail
 go_at_call 99
 refine O1.out.mono ?_
 rintro e w1 ⟨rfl,H1,B1⟩
 go_wp2_with fail
 go_at_call 99
 refine (O2.out w1 (own_belowB HO.out B1.out HG.out) H1.out).mono ?_
 rintro e w2 ⟨rfl,H2,B2⟩
 go_wp2_with fail
 go_at_call 99
 refine (O3.out w2 (own_belowB (own_belowB HO.out B1.out HG.out) B2.out HG.out) H2.out).mono ?_
 rintro e w3 ⟨rfl,H3,B3⟩
 go_wp2_with fail
 first|go_ret|((try simp only [Exit.inBlock,Exit.then]);refine bodyPost_ret (results_tmp rfl _ _ _) rfl ?_)
 exact ⟨rfl,H3,⟨(B1.out.trans B2.out).trans B3.out⟩⟩
def hintN : Hint → Int
 | .unknown => 0
 | .increasing => 1
 | .decreasing => 2
theorem median_le (d : Array Int) (i j k : Nat) : (Go.Sort.median ltInt d i j k 0).2 ≤ 3 := by
 unfold Go.Sort.median
 have a1 := order2_le d i j 0
 have a2 := order2_le d (order2 ltInt d i j 0).2.1 k (order2 ltInt d i j 0).2.2
 have a3 := order2_le d (order2 ltInt d i j 0).1 (order2 ltInt d (order2 ltInt d i j 0).2.1 k (order2 ltInt d i j 0).2.2).1 (order2 ltInt d (order2 ltInt d i j 0).2.1 k (order2 ltInt d i j 0).2.2).2.2
 exact Nat.le_trans a3 (by omega)
theorem choose_small (d : Array Int) (a b : Nat) (h1 : 12 < b - a) (h2 : b - a < 50) : choosePivot ltInt d a b =
  ((Go.Sort.median ltInt d (a + (b - a) / 4) (a + (b - a) / 4 * 2) (a + (b - a) / 4 * 3) 0).1,if (Go.Sort.median ltInt d (a + (b - a) / 4) (a + (b - a) / 4 * 2) (a + (b - a) / 4 * 3) 0).2 = 0 then .increasing else .unknown) := by
 have hm := median_le d (a + (b - a) / 4) (a + (b - a) / 4 * 2) (a + (b - a) / 4 * 3)
 unfold choosePivot
 simp only [Nat.mul_one]
 rw [if_pos (show b - a ≥ 8 by omega),if_neg (show ¬ b - a ≥ 50 by omega)]
 generalize Go.Sort.median ltInt d (a + (b - a) / 4) (a + (b - a) / 4 * 2) (a + (b - a) / 4 * 3) 0 = r at hm
 obtain ⟨x,y⟩ := r
 dsimp only at hm ⊢
 by_cases h0 : y = 0
 ·rw [if_pos h0,if_pos h0]
 ·rw [if_neg h0,if_neg h0,if_neg (by omega)]
set_option maxHeartbeats 2000000 in
set_option maxRecDepth 100000 in
theorem pivot_walk (base : Nat) (l : List Int) (g q a b : Nat) (w : World) (ho : w.ownsRow base 22 1 (.slice (some ⟨g,0,none⟩) l.length q) l.length (nums .u64 l)) (hb : b ≤ l.length) (h1 : 12 < b - a) (h2 : b - a < 50) (hl : l.length < 1000000) :
  Calls Try.prog 86 #[.slice (some ⟨g,0,none⟩) l.length q,.int .i64 (a : Int),.int .i64 (b : Int)] w fun e w' =>
   e = .returned (.tuple #[.int .i64 ((choosePivot ltInt l.toArray a b).1 : Int),.int .i64 (hintN (choosePivot ltInt l.toArray a b).2)]) ∧ Aside0 (RowKit.Below w.heap.size w w') := by
 have hg : g < w.heap.size := own_lt ho g rfl
 have hm := median_walk base l g q (a + (b - a) / 4) (a + (b - a) / 4 * 2) (a + (b - a) / 4 * 3) w.heap.size 0 (w.alloc (.cells #[.int .i64 0] 3)) (pw_own_below ho (below_alloc (RowKit.Below.refl _ _) _)) (by omega) (by omega) (by omega) hg (blk_new w _) (by omega)
 rw [choose_small _ a b h1 h2]
 obtain ⟨r,hr⟩ : ∃ r,r = Go.Sort.median ltInt l.toArray (a + (b - a) / 4) (a + (b - a) / 4 * 2) (a + (b - a) / 4 * 3) 0 := ⟨_,rfl⟩
 have hy3 := median_le l.toArray (a + (b - a) / 4) (a + (b - a) / 4 * 2) (a + (b - a) / 4 * 3)
 rw [← hr] at hm hy3 ⊢
 clear hr ho hg
 obtain ⟨x,y⟩ := r
 dsimp only at hm hy3 ⊢
 obtain ⟨L,hL⟩ : ∃ L,L = b - a := ⟨_,rfl⟩
 obtain rfl : b = a + L := by omega
 rw [← hL] at hm
 have HM := Aside0.mk hm
 clear hm hL
 have q1 : decide ((L : Int) ≥ 8) = true := decide_eq_true (by omega)
 have q2 : decide ((L : Int) ≥ 50) = false := decide_eq_false (by omega)
 have hsub : ((a + L : Nat) : Int) - (a : Int) = (L : Int) := by omega
 have HA := Aside0.mk (below_alloc (RowKit.Below.refl w.heap.size w) (.cells #[.int .i64 0] 3))
 by_cases h0 : y = 0
 ·have t1 : ((y : Int) == 0) = true := beq_iff_eq.mpr (by omega)
  rw [if_pos h0]
  clear h0
  go_enter Try.func86,Try.ntmps86
  go_wp2_with fail
  refine calls_of_args (args' := #[.slice (some ⟨g,0,none⟩) l.length q,.int .i64 ((a + L / 4 : Nat) : Int),.int .i64 ((a + L / 4 * 2 : Nat) : Int),.int .i64 ((a + L / 4 * 3 : Nat) : Int),.pointer (some ⟨w.heap.size,0,none⟩)]) ?_ (HM.out.mono ?_)
  ·rw [show ((a + L / 4 : Nat) : Int) = (a : Int) + ((a : Int) + (L : Int) - (a : Int)) / 4 from by omega,show ((a + L / 4 * 2 : Nat) : Int) = (a : Int) + ((a : Int) + (L : Int) - (a : Int)) / 4 * 2 from by omega,show ((a + L / 4 * 3 : Nat) : Int) = (a : Int) + ((a : Int) + (L : Int) - (a : Int)) / 4 * 3 from by omega]
  rintro e w1 ⟨rfl,H1,B1⟩
  have c0 := blk_cell H1.out 0
  simp only [List.getElem?_toArray,List.getElem?_cons_zero] at c0
  have HB := Aside0.mk (HA.out.trans B1.out)
  clear H1 HM HA B1
  go_wp2_with fail
  first|go_ret2|((try simp only [Exit.inBlock,Exit.then]);refine bodyPost_ret (results_tmp2 rfl _ _ _) rfl ?_)
  exact ⟨rfl,HB⟩
 ·have t1 : ((y : Int) == 0) = false := beq_eq_false_iff_ne.mpr (by omega)
  have t2 : ((y : Int) == 12) = false := beq_eq_false_iff_ne.mpr (by omega)
  rw [if_neg h0]
  clear h0
  go_enter Try.func86,Try.ntmps86
  go_wp2_with fail
  refine calls_of_args (args' := #[.slice (some ⟨g,0,none⟩) l.length q,.int .i64 ((a + L / 4 : Nat) : Int),.int .i64 ((a + L / 4 * 2 : Nat) : Int),.int .i64 ((a + L / 4 * 3 : Nat) : Int),.pointer (some ⟨w.heap.size,0,none⟩)]) ?_ (HM.out.mono ?_)
  ·rw [show ((a + L / 4 : Nat) : Int) = (a : Int) + ((a : Int) + (L : Int) - (a : Int)) / 4 from by omega,show ((a + L / 4 * 2 : Nat) : Int) = (a : Int) + ((a : Int) + (L : Int) - (a : Int)) / 4 * 2 from by omega,show ((a + L / 4 * 3 : Nat) : Int) = (a : Int) + ((a : Int) + (L : Int) - (a : Int)) / 4 * 3 from by omega]
  rintro e w1 ⟨rfl,H1,B1⟩
  have c0 := blk_cell H1.out 0
  simp only [List.getElem?_toArray,List.getElem?_cons_zero] at c0
  have HB := Aside0.mk (HA.out.trans B1.out)
  clear H1 HM HA B1
  go_wp2_with fail
  first|go_ret2|((try simp only [Exit.inBlock,Exit.then]);refine bodyPost_ret (results_tmp2 rfl _ _ _) rfl ?_)
  exact ⟨rfl,HB⟩
theorem set_set (w : World) (b i : Nat) (u v : Value) : (w.setCell ⟨b,i,none⟩ u).setCell ⟨b,i,none⟩ v = w.setCell ⟨b,i,none⟩ v := by
 rw [setCell_eq,setCell_eq,mapBlock_mapBlock,setCell_eq]
 congr 1
 funext c
 simp
set_option maxHeartbeats 2000000 in
set_option maxRecDepth 100000 in
theorem next_walk (br X : Nat) (hX : X < 18446744073709551616) (w : World) (hS : w.heap[br]? = some (.cells #[.int .u64 (X : Int)] 108 (0,0))) :
  Calls Try.prog 95 #[.pointer (some ⟨br,0,none⟩)] w fun e w' => e = .returned (.int .u64 ((xorNextN X : Nat) : Int)) ∧ Aside0 (w'.heap[br]? = some (.cells #[.int .u64 ((xorNextN X : Nat) : Int)] 108 (0,0))) ∧ Aside0 (RowKit.Below br w w') := by
 obtain ⟨A,hA⟩ : ∃ A : Nat,A = X ^^^ (X * 8192 % 18446744073709551616) := ⟨_,rfl⟩
 obtain ⟨B,hB⟩ : ∃ B : Nat,B = A ^^^ (A / 128) := ⟨_,rfl⟩
 obtain ⟨C,hC⟩ : ∃ C : Nat,C = B ^^^ (B * 131072 % 18446744073709551616) := ⟨_,rfl⟩
 have lA : A < 18446744073709551616 := by rw [hA];exact Nat.xor_lt_two_pow (n := 64) (by omega) (by omega)
 have lB : B < 18446744073709551616 := by rw [hB];exact Nat.xor_lt_two_pow (n := 64) (by omega) (by omega)
 have g1 : bits .xor .u64 (X : Int) (IntKind.u64.wrap ((X : Int) * 8192)) = (A : Int) := by
  rw [IntKind.wrap_u64,show ((X : Int) * 8192 % 18446744073709551616) = ((X * 8192 % 18446744073709551616 : Nat) : Int) by omega,bits_xor_u64_nat _ _ hX (by omega),hA]
 have g2 : bits .xor .u64 (A : Int) ((A : Int) / 128) = (B : Int) := by
  rw [show ((A : Int) / 128) = ((A / 128 : Nat) : Int) by omega,bits_xor_u64_nat _ _ lA (by omega),hB]
 have g3 : bits .xor .u64 (B : Int) (IntKind.u64.wrap ((B : Int) * 131072)) = (C : Int) := by
  rw [IntKind.wrap_u64,show ((B : Int) * 131072 % 18446744073709551616) = ((B * 131072 % 18446744073709551616 : Nat) : Int) by omega,bits_xor_u64_nat _ _ lB (by omega),hC]
 have hv : xorNextN X = C := by unfold xorNextN;simp only [];rw [← hA,← hB,← hC]
 rw [hv]
 have HS := Aside0.mk hS
 have c0 := blk_cell hS 0
 have f0 := blk_frozen hS 0
 simp only [List.getElem?_toArray,List.getElem?_cons_zero] at c0
 have hss := fun u v => set_set w br 0 u v
 clear hA hB hC hv hS hX lA lB
 go_enter Try.func95,Try.ntmps95
 go_wp2
 go_region
 all_goals go_wp2
 all_goals go_region
 all_goals go_wp2
 all_goals go_region
 all_goals go_wp2
 first|go_ret|((try simp only [Exit.inBlock,Exit.then]);refine bodyPost_ret (results_tmp rfl _ _ _) rfl ?_)
 refine ⟨rfl,⟨?_⟩,⟨?_⟩⟩
 ·exact blk_put (w := w) HS.out 0 _ (by simp)
 ·exact below_drew (below_drew (below_drew ((RowKit.Below.refl _ _).setCell (p := ⟨br,0,none⟩) (Nat.le_refl _) _)))
theorem len_tab : ∀ n : Nat,n < 50 → bits_Len.f 3 (n : Int) = some ((bitsLen n : Nat) : Int) := by
 have h : (List.range 50).all (fun (n : Nat) => bits_Len.f 3 (n : Int) == some ((bitsLen n : Nat) : Int)) = true := by decide +kernel
 intro n hn
 exact eq_of_beq (List.all_eq_true.1 h n (List.mem_range.2 hn))
theorem pow_bitsLen (n : Nat) (hn : n < 50) : IntKind.u64.wrap ((2 : Int) ^ bitsLen n) = ((1 <<< bitsLen n : Nat) : Int) := by
 have hk : bitsLen n ≤ 6 := (bitsLen_le_iff n 6).2 (by omega)
 have h : (2 : Nat) ^ bitsLen n ≤ 2 ^ 6 := Nat.pow_le_pow_right (by decide) hk
 rw [IntKind.wrap_u64,Nat.one_shiftLeft,show ((2 : Int) ^ bitsLen n) = ((2 ^ bitsLen n : Nat) : Int) by push_cast;rfl]
 generalize (2 : Nat) ^ bitsLen n = p at h
 omega
set_option maxRecDepth 100000 in
theorem pow_walk (n : Nat) (hn : n < 50) (w : World) : Calls Try.prog 94 #[.int .i64 (n : Int)] w fun e w' => e = .returned (.int .u64 ((1 <<< bitsLen n : Nat) : Int)) ∧ Aside0 (∃ m,w' = w.drewN m) := by
 have HL := Aside0.mk (len_tab n hn)
 have hk : bitsLen n ≤ 6 := (bitsLen_le_iff n 6).2 (by omega)
 have hp := pow_bitsLen n hn
 obtain ⟨k,hkk⟩ : ∃ k,k = bitsLen n := ⟨_,rfl⟩
 rw [← hkk] at HL hp hk ⊢
 clear hkk
 go_enter Try.func94,Try.ntmps94
 go_wp2_with (first|(go_at_call 80;(refine (bits_Len.calls 3 _ (k : Int) _ HL.out).mono ?_);rintro e w' ⟨rfl,⟨nd,rfl⟩⟩))
 first|go_ret|((try simp only [Exit.inBlock,Exit.then]);refine bodyPost_ret (results_tmp rfl _ _ _) rfl ?_)
 exact ⟨by first|rfl|(rw [← hp];rfl)|(congr 1;exact hp),⟨_,rfl⟩⟩
def bpN (a L M i0 : Nat) (st : UInt64 × Array Int) : Nat → UInt64 × Array Int
 | 0 => st
 | t + 1 => breakStep a L M (bpN a L M i0 st t) (i0 + t)
theorem break_eq (d : Array Int) (a L : Nat) (h8 : 8 ≤ L) : breakPatterns d a (a + L) = (bpN a L (1 <<< bitsLen L) (a + L / 4 * 2 - 1) (UInt64.ofNat L,d) 3).2 := by
 unfold breakPatterns
 simp only [Nat.add_sub_cancel_left]
 rw [if_pos h8]
 rfl
theorem bpN_next (a L M i0 : Nat) (st : UInt64 × Array Int) (t : Nat) (l : List Int) (r : UInt64) (h1 : (bpN a L M i0 st t).1 = r) (h2 : (bpN a L M i0 st t).2 = l.toArray) (o : Nat)
  (ho : o = (if (xorNext r).toNat &&& (M - 1) ≥ L then ((xorNext r).toNat &&& (M - 1)) - L else (xorNext r).toNat &&& (M - 1))) :
  (bpN a L M i0 st (t + 1)).1 = xorNext r ∧ (bpN a L M i0 st (t + 1)).2 = ((l.set (i0 + t) (rd l ((a + o : Nat) : Int))).set (a + o) (rd l ((i0 + t : Nat) : Int))).toArray := by
 rw [sswp]
 rw [bpN]
 unfold breakStep
 simp only [h1,h2,← ho]
 exact ⟨trivial,trivial⟩
theorem own_swap {w : World} {base g n c : Nat} {l : List Int} (h : w.ownsRow base 22 1 (.slice (some ⟨g,0,none⟩) n c) n (nums .u64 l)) (i j : Nat) (x y : Int) :
  ((w.setCell ⟨g,i,none⟩ (.int .u64 x)).setCell ⟨g,j,none⟩ (.int .u64 y)).ownsRow base 22 1 (.slice (some ⟨g,0,none⟩) n c) n (nums .u64 ((l.set i x).set j y)) := by
 have h1 := (own_store h (i : Int) x).1
 have h2 := (own_store h1 (j : Int) y).1
 simpa using h2
set_option maxHeartbeats 4000000 in
set_option maxRecDepth 100000 in
theorem break_walk (l : List Int) (g q a L : Nat) (w0 w : World) (hB : RowKit.Below w0.heap.size w0 w) (ho : w.ownsRow w0.heap.size 22 1 (.slice (some ⟨g,0,none⟩) l.length q) l.length (nums .u64 l)) (hb : a + L ≤ l.length) (h1 : 12 < L) (h2 : L < 50) (hl : l.length < 1000000) :
  Calls Try.prog 85 #[.slice (some ⟨g,0,none⟩) l.length q,.int .i64 (a : Int),.int .i64 ((a + L : Nat) : Int)] w fun e w' =>
   e = .returned (.tuple #[]) ∧ Aside0 (w'.ownsRow w0.heap.size 22 1 (.slice (some ⟨g,0,none⟩) l.length q) l.length (nums .u64 (breakPatterns l.toArray a (a + L)).toList)) ∧ Aside0 (RowKit.Below w0.heap.size w0 w') := by
 rw [break_eq _ a L (by omega)]
 have HP := Aside0.mk (fun w => pow_walk L h2 w)
 have hM1 : 1 ≤ 1 <<< bitsLen L := by rw [Nat.one_shiftLeft];exact Nat.two_pow_pos _
 have hM2 : 1 <<< bitsLen L ≤ 2 * L := by rw [Nat.one_shiftLeft];exact two_pow_bitsLen_le (by omega)
 obtain ⟨M,hM⟩ : ∃ M : Nat,M = 1 <<< bitsLen L := ⟨_,rfl⟩
 rw [← hM] at HP hM1 hM2 ⊢
 clear hM
 have hg : g < w.heap.size := own_lt ho g rfl
 have hgb : w0.heap.size ≤ g := own_base ho g rfl
 obtain ⟨br,hbr⟩ : ∃ b,b = w.heap.size := ⟨_,rfl⟩
 have HBR := Aside0.mk hbr
 have HO0 := Aside0.mk (pw_own_below ho (below_alloc (RowKit.Below.refl _ _) (.cells #[.int .u64 (L : Int)] 108)))
 have HB0 := Aside0.mk (below_alloc hB (.cells #[.int .u64 (L : Int)] 108))
 have HS0 := Aside0.mk (show (w.alloc (.cells #[.int .u64 (L : Int)] 108)).heap[br]? = some (.cells #[.int .u64 (((UInt64.ofNat L).toNat : Nat) : Int)] 108 (0,0)) by
  rw [hbr,show (UInt64.ofNat L).toNat = L from by simp;omega];exact blk_new w _)
 have hgr : g < br := by omega
 have hbw : w0.heap.size ≤ br := by omega
 clear hbr ho hB hg
 go_enter Try.func85,Try.ntmps85
 go_wp2_with fail
 rw [show (a : Int) + (L : Int) - (a : Int) = (L : Int) from by omega,← HBR.out]
 refine (HP.out _).mono ?_
 rintro e w1 ⟨rfl,⟨nd,rfl⟩⟩
 have HO1 := Aside0.mk (pw_own_drewN HO0.out nd)
 have HB1 := Aside0.mk (pw_below_drewN HB0.out nd)
 have HS1 := Aside0.mk (blk_drewN HS0.out nd)
 clear HO0 HB0 HS0 HP
 go_wp2_with fail
 go_loopg [9,10] 3 (fun kq v9 v10 w' => ∃ (t : Nat) (r : UInt64) (dk : List Int),v9 = .int .i64 ((a + L / 4 * 2 - 1 + t : Nat) : Int) ∧ Aside0 (kq + t = 3) ∧ Aside0 ((bpN a L M (a + L / 4 * 2 - 1) (UInt64.ofNat L,l.toArray) t).1 = r ∧ (bpN a L M (a + L / 4 * 2 - 1) (UInt64.ofNat L,l.toArray) t).2 = dk.toArray ∧ dk.length = l.length) ∧
  Aside0 (w'.ownsRow w0.heap.size 22 1 (.slice (some ⟨g,0,none⟩) l.length q) l.length (nums .u64 dk)) ∧ Aside0 (w'.heap[br]? = some (.cells #[.int .u64 ((r.toNat : Nat) : Int)] 108 (0,0))) ∧ Aside0 (RowKit.Below w0.heap.size w0 w'))
 case atStart => exact ⟨0,UInt64.ofNat L,l,by first|rfl|(congr 1;omega),⟨rfl⟩,⟨rfl,rfl,rfl⟩,HO1,HS1,HB1⟩
 case round =>
  clear HO1 HB1 HS1
  obtain ⟨t,r,dk,rfl,HK,HR,HO,HS,HB⟩ := hrel
  by_cases ht : t < 3
  ·obtain ⟨R,hR⟩ : ∃ R : Nat,R = r.toNat := ⟨_,rfl⟩
   have lR : R < 18446744073709551616 := by rw [hR];exact r.toNat_lt
   obtain ⟨R',hR'⟩ : ∃ R' : Nat,R' = xorNextN R := ⟨_,rfl⟩
   have lR' : R' < 18446744073709551616 := by rw [hR'];exact xorNextN_lt R lR
   obtain ⟨O,hO⟩ : ∃ O : Nat,O = R' &&& (M - 1) := ⟨_,rfl⟩
   have lO : O ≤ M - 1 := by rw [hO];exact Nat.and_le_right
   have eAnd : bits .and .u64 (R' : Int) ((M : Int) - 1) = (O : Int) := by
    rw [show ((M : Int) - 1) = ((M - 1 : Nat) : Int) by omega,u64_and_nat _ _ lR' (by omega),hO]
   have HN := Aside0.mk (next_walk br R lR wr (by rw [hR];exact HS.out))
   have eX : R' = (xorNext r).toNat := by rw [hR',hR,xorNext_toNat]
   have HX := Aside0.mk (And.intro eX (show O = (xorNext r).toNat &&& (M - 1) by rw [hO,eX]))
   rw [← hR'] at HN
   clear hR hR' hO eX lR lR'
   have q1 : ((a + L / 4 * 2 - 1 + t : Nat) : Int) ≤ (a : Int) + (L : Int) / 4 * 2 + 1 := by omega
   go_wp2_with fail
   refine HN.out.mono ?_
   rintro e w2 ⟨rfl,HS2,B2⟩
   have HO2 := Aside0.mk (own_belowB HO.out B2.out hgr)
   have HB2 := Aside0.mk (HB.out.trans (B2.out.mono hbw))
   clear HN HO HB B2
   obtain ⟨I,hI⟩ : ∃ I : Nat,I = a + L / 4 * 2 - 1 + t := ⟨_,rfl⟩
   have hI2 : a ≤ I ∧ I < a + L := by omega
   by_cases hLO : L ≤ O
   ·obtain ⟨J,hJ⟩ : ∃ J : Nat,J = O - L := ⟨_,rfl⟩
    have hJ2 : J < L := by omega
    have hwr : (O : Int) - (L : Int) = (J : Int) := by omega
    have HJ := Aside0.mk (show J = (if (xorNext r).toNat &&& (M - 1) ≥ L then ((xorNext r).toNat &&& (M - 1)) - L else (xorNext r).toNat &&& (M - 1)) by rw [← HX.out.2,if_pos hLO];exact hJ)
    have hJ3 : a + J < l.length := by omega
    have HX' := Aside0.mk HX.out.1
    clear HX hJ
    go_wp2_with fail
    have hdl := HR.out.2.2
    have c1 := own_at HO2.out ((a + L / 4 * 2 - 1 + t : Nat) : Int) (by omega) (by omega)
    have c2 := own_at HO2.out ((a + J : Nat) : Int) (by omega) (by omega)
    rw [Int.toNat_natCast] at c1 c2
    have HNX := Aside0.mk (bpN_next a L M (a + L / 4 * 2 - 1) (UInt64.ofNat L,l.toArray) t dk r HR.out.1 HR.out.2.1 J HJ.out)
    obtain ⟨x1,ex1⟩ : ∃ x,x = rd dk ((a + L / 4 * 2 - 1 + t : Nat) : Int) := ⟨_,rfl⟩
    obtain ⟨x2,ex2⟩ : ∃ x,x = rd dk ((a + J : Nat) : Int) := ⟨_,rfl⟩
    rw [← ex1,← ex2] at HNX
    rw [← ex1] at c1
    rw [← ex2] at c2
    obtain ⟨c1,f1⟩ := c1
    obtain ⟨c2,f2⟩ := c2
    have HO3 := Aside0.mk (pw_own_below (own_swap HO2.out (a + L / 4 * 2 - 1 + t) (a + J) x2 x1) (below_drew (RowKit.Below.refl _ _)))
    have HB3 := Aside0.mk (below_drew ((HB2.out.setCell (p := ⟨g,a + L / 4 * 2 - 1 + t,none⟩) hgb (.int .u64 x2)).setCell (p := ⟨g,a + J,none⟩) hgb (.int .u64 x1)))
    have HS3 := Aside0.mk (blk_drew (blk_far (p := ⟨g,a + J,none⟩) (blk_far (p := ⟨g,a + L / 4 * 2 - 1 + t,none⟩) HS2.out (show br ≠ g by omega) (.int .u64 x2)) (show br ≠ g by omega) (.int .u64 x1)))
    have HLn := Aside0.mk (show ((dk.set (a + L / 4 * 2 - 1 + t) x2).set (a + J) x1).length = l.length by rw [slen];exact hdl)
    have HKt := Aside0.mk (show 3 - (t + 1) + (t + 1) = 3 by omega)
    have EX := Aside0.mk (And.intro ex1 ex2)
    have hX2 := HX'.out
    clear hdl ex1 ex2 hI hI2
    by_cases hEq : a + L / 4 * 2 - 1 + t = a + J
    ·have h12 : x1 = x2 := by rw [EX.out.1,EX.out.2,hEq]
     subst h12
     rw [hEq] at HO3 HB3 HS3 HLn HNX
     go_region
     all_goals go_wp2
     go_roundg (3 - (t + 1))
     case measure => have := HK.out;omega
     case rel => exact ⟨t + 1,xorNext r,_,by congr 1 <;> omega,HKt,⟨HNX.out.1,HNX.out.2,HLn.out⟩,HO3,by rw [hX2] at HS3;exact HS3,HB3⟩
    ·go_region
     all_goals go_wp2
     go_roundg (3 - (t + 1))
     case measure => have := HK.out;omega
     case rel => exact ⟨t + 1,xorNext r,_,by congr 1 <;> omega,HKt,⟨HNX.out.1,HNX.out.2,HLn.out⟩,HO3,by rw [hX2] at HS3;exact HS3,HB3⟩
   ·obtain ⟨J,hJ⟩ : ∃ J : Nat,J = O := ⟨_,rfl⟩
    subst hJ
    have hJ2 : J < L := by omega
    have HJ := Aside0.mk (show J = (if (xorNext r).toNat &&& (M - 1) ≥ L then ((xorNext r).toNat &&& (M - 1)) - L else (xorNext r).toNat &&& (M - 1)) by rw [← HX.out.2,if_neg hLO])
    have hJ3 : a + J < l.length := by omega
    have HX' := Aside0.mk HX.out.1
    clear HX
    go_wp2_with fail
    have hdl := HR.out.2.2
    have c1 := own_at HO2.out ((a + L / 4 * 2 - 1 + t : Nat) : Int) (by omega) (by omega)
    have c2 := own_at HO2.out ((a + J : Nat) : Int) (by omega) (by omega)
    rw [Int.toNat_natCast] at c1 c2
    have HNX := Aside0.mk (bpN_next a L M (a + L / 4 * 2 - 1) (UInt64.ofNat L,l.toArray) t dk r HR.out.1 HR.out.2.1 J HJ.out)
    obtain ⟨x1,ex1⟩ : ∃ x,x = rd dk ((a + L / 4 * 2 - 1 + t : Nat) : Int) := ⟨_,rfl⟩
    obtain ⟨x2,ex2⟩ : ∃ x,x = rd dk ((a + J : Nat) : Int) := ⟨_,rfl⟩
    rw [← ex1,← ex2] at HNX
    rw [← ex1] at c1
    rw [← ex2] at c2
    obtain ⟨c1,f1⟩ := c1
    obtain ⟨c2,f2⟩ := c2
    have HO3 := Aside0.mk (pw_own_below (own_swap HO2.out (a + L / 4 * 2 - 1 + t) (a + J) x2 x1) (below_drew (RowKit.Below.refl _ _)))
    have HB3 := Aside0.mk (below_drew ((HB2.out.setCell (p := ⟨g,a + L / 4 * 2 - 1 + t,none⟩) hgb (.int .u64 x2)).setCell (p := ⟨g,a + J,none⟩) hgb (.int .u64 x1)))
    have HS3 := Aside0.mk (blk_drew (blk_far (p := ⟨g,a + J,none⟩) (blk_far (p := ⟨g,a + L / 4 * 2 - 1 + t,none⟩) HS2.out (show br ≠ g by omega) (.int .u64 x2)) (show br ≠ g by omega) (.int .u64 x1)))
    have HLn := Aside0.mk (show ((dk.set (a + L / 4 * 2 - 1 + t) x2).set (a + J) x1).length = l.length by rw [slen];exact hdl)
    have HKt := Aside0.mk (show 3 - (t + 1) + (t + 1) = 3 by omega)
    have EX := Aside0.mk (And.intro ex1 ex2)
    have hX2 := HX'.out
    clear hdl ex1 ex2 hI hI2
    by_cases hEq : a + L / 4 * 2 - 1 + t = a + J
    ·have h12 : x1 = x2 := by rw [EX.out.1,EX.out.2,hEq]
     subst h12
     rw [hEq] at HO3 HB3 HS3 HLn HNX
     go_region
     all_goals go_wp2
     go_roundg (3 - (t + 1))
     case measure => have := HK.out;omega
     case rel => exact ⟨t + 1,xorNext r,_,by congr 1 <;> omega,HKt,⟨HNX.out.1,HNX.out.2,HLn.out⟩,HO3,by rw [hX2] at HS3;exact HS3,HB3⟩
    ·go_region
     all_goals go_wp2
     go_roundg (3 - (t + 1))
     case measure => have := HK.out;omega
     case rel => exact ⟨t + 1,xorNext r,_,by congr 1 <;> omega,HKt,⟨HNX.out.1,HNX.out.2,HLn.out⟩,HO3,by rw [hX2] at HS3;exact HS3,HB3⟩
  ·have ht3 : t = 3 := by have := HK.out;omega
   subst ht3
   have q1 : decide (((a + L / 4 * 2 - 1 + 3 : Nat) : Int) ≤ (a : Int) + (L : Int) / 4 * 2 + 1) = false := decide_eq_false (by omega)
   go_wp2_with fail
   first|go_end0|((try simp only [Exit.inBlock,Exit.then]);refine bodyPost_ret (results_none rfl _ _ _) rfl ?_)|go_ret
   refine ⟨rfl,⟨?_⟩,HB⟩
   have hl3 : (bpN a L M (a + L / 4 * 2 - 1) (UInt64.ofNat L,l.toArray) 3).2.toList = dk := by rw [HR.out.2.1]
   rw [hl3]
   exact HO.out
theorem peq_range (a : Nat) : ∀ (n i j : Nat) (d : Array Int),j + 1 ≤ i + n → 1 ≤ i → i ≤ (partEqLoop ltInt a i j d).1 ∧ (partEqLoop ltInt a i j d).1 ≤ max i (j + 1) ∧ (partEqLoop ltInt a i j d).2.size = d.size := by
 intro n
 induction n with
 | zero =>
  intro i j d hn hi
  have h1 : scanUp (fun x => !ltInt d[a]! x) d j i = i := su_stop _ _ _ _ (by omega)
  have h2 : scanDown (fun x => ltInt d[a]! x) d i j = j := sd_stop _ _ _ _ hi (by omega)
  rw [partEqLoop_eq a i j i j _ h1.symm h2.symm hi,if_pos (by omega)]
  exact ⟨Nat.le_refl _,Nat.le_max_left _ _,rfl⟩
 | succ n ih =>
  intro i j d hn hi
  obtain ⟨i2,hi2⟩ : ∃ x,x = scanUp (fun x => !ltInt d[a]! x) d j i := ⟨_,rfl⟩
  obtain ⟨j2,hj2⟩ : ∃ x,x = scanDown (fun x => ltInt d[a]! x) d i2 j := ⟨_,rfl⟩
  have b1 := su_ge (fun x => !ltInt d[a]! x) d j (j + 1) i (by omega)
  rw [← hi2] at b1
  have b2 := (sd_le (fun x => ltInt d[a]! x) d i2 (Nat.le_trans hi b1.1) j).1
  rw [← hj2] at b2
  rw [partEqLoop_eq a i j i2 j2 _ hi2 hj2 hi]
  clear hi2 hj2
  by_cases hgt : i2 > j2
  ·rw [if_pos hgt];exact ⟨b1.1,b1.2,rfl⟩
  ·rw [if_neg hgt]
   obtain ⟨x1,x2,x3⟩ := ih (i2 + 1) (j2 - 1) (swp d i2 j2) (by omega) (by omega)
   exact ⟨by omega,by omega,by rw [x3,size_swp]⟩
theorem swo : SWO ltInt := swo_ltInt
def pdqB (d : Array Int) (a b lim : Nat) (wb wp : Bool) (pv : Nat) : Array Int :=
 if (decide (a > 0) && !ltInt d[a - 1]! d[pv]!) = true then pdq ltInt (partitionEqual ltInt d a b pv).2 (partitionEqual ltInt d a b pv).1 b lim wb wp
 else if (Go.Sort.partition ltInt d a b pv).1 - a < b - (Go.Sort.partition ltInt d a b pv).1 then
  pdq ltInt (pdq ltInt (Go.Sort.partition ltInt d a b pv).2.2 a (Go.Sort.partition ltInt d a b pv).1 lim true true) ((Go.Sort.partition ltInt d a b pv).1 + 1) b lim (decide ((Go.Sort.partition ltInt d a b pv).1 - a ≥ (b - a) / 8)) (Go.Sort.partition ltInt d a b pv).2.1
 else pdq ltInt (pdq ltInt (Go.Sort.partition ltInt d a b pv).2.2 ((Go.Sort.partition ltInt d a b pv).1 + 1) b lim true true) a (Go.Sort.partition ltInt d a b pv).1 lim (decide (b - (Go.Sort.partition ltInt d a b pv).1 ≥ (b - a) / 8)) (Go.Sort.partition ltInt d a b pv).2.1
theorem choose_hint (d : Array Int) (a b : Nat) (h1 : 12 < b - a) (h2 : b - a < 50) : (choosePivot ltInt d a b).2 ≠ .decreasing := by
 rw [choose_small d a b h1 h2]
 dsimp only
 split <;> exact fun h => by cases h
theorem pdq_step (d : Array Int) (a b limit : Nat) (wb wp : Bool) (h1 : 12 < b - a) (h2 : b - a < 50) (h3 : limit ≠ 0) (d1 : Array Int) (hd1 : d1 = if wb = true then d else breakPatterns d a b) (hb : b ≤ d1.size) (lim : Nat) (hlim : lim = if wb = true then limit else limit - 1) :
  pdq ltInt d a b limit wb wp = if (wb && wp && decide ((choosePivot ltInt d1 a b).2 = .increasing) && decide (scanSorted ltInt d1 b (a + 1) = b)) = true then d1 else pdqB d1 a b lim wb wp (choosePivot ltInt d1 a b).1 := by
 have hr := choosePivot_holds ltInt d1 a b (by omega)
 have hpt := partition_holds ltInt swo d1 a b (choosePivot ltInt d1 a b).1 hr.1 hr.2 hb
 have hpe : a + 1 ≤ (partitionEqual ltInt d1 a b (choosePivot ltInt d1 a b).1).1 ∧ (partitionEqual ltInt d1 a b (choosePivot ltInt d1 a b).1).1 ≤ b := by
  have := peq_range a b (a + 1) (b - 1) (swp d1 a (choosePivot ltInt d1 a b).1) (by omega) (by omega)
  unfold partitionEqual
  omega
 rw [pdq,if_neg (by omega),if_neg h3]
 have e1 : (if (!wb) = true then breakPatterns d a b else d) = d1 := by rw [hd1];cases wb <;> rfl
 have e2 : (if (!wb) = true then limit - 1 else limit) = lim := by rw [hlim];cases wb <;> rfl
 simp only [e1,e2,if_neg (choose_hint d1 a b h1 h2),partialIns_small a b d1 h2]
 have e3 : ∀ c : Bool,(if c = true then (d1,decide (scanSorted ltInt d1 b (a + 1) = b)) else (d1,false)) = (d1,c && decide (scanSorted ltInt d1 b (a + 1) = b)) := fun c => by cases c <;> rfl
 simp only [e3]
 unfold pdqB
 simp only [dif_pos (show a < (partitionEqual ltInt d1 a b (choosePivot ltInt d1 a b).1).1 ∧ (partitionEqual ltInt d1 a b (choosePivot ltInt d1 a b).1).1 ≤ b from ⟨hpe.1,hpe.2⟩),dif_pos (show a ≤ (Go.Sort.partition ltInt d1 a b (choosePivot ltInt d1 a b).1).1 ∧ (Go.Sort.partition ltInt d1 a b (choosePivot ltInt d1 a b).1).1 < b from ⟨hpt.1,hpt.2.1⟩)]
def Own (w : World) (base g q len : Nat) (l : List Int) : Prop := l.length = len ∧ w.ownsRow base 22 1 (.slice (some ⟨g,0,none⟩) len q) len (nums .u64 l)
theorem Own.R {w : World} {base g q len : Nat} {l : List Int} (h : Own w base g q len l) : Kd.R (Kd.int .u64) 22 w base (fun _ => True) (.slice (some ⟨g,0,none⟩) len q) l := by
 obtain ⟨h1,h2⟩ := h
 subst h1
 exact R_made h2 (fun _ _ => trivial)
theorem Own.of {w : World} {base g q len : Nat} {l : List Int} {ok : Nat → Prop} (h : Kd.R (Kd.int .u64) 22 w base ok (.slice (some ⟨g,0,none⟩) len q) l) : Own w base g q len l := by
 have h1 := (Kd.R_reads' h).1
 subst h1
 exact ⟨rfl,Kd.own_of_R h⟩
theorem Own.of_own {w : World} {base g q len : Nat} {l : List Int} (h : w.ownsRow base 22 1 (.slice (some ⟨g,0,none⟩) len q) len (nums .u64 l)) : Own w base g q len l := by
 refine ⟨?_,h⟩
 have := h.1
 simpa [nums] using this
def PdqOk (g q len : Nat) (w0 : World) (n : Nat) : Prop := ∀ (l : List Int) (a b limit : Nat) (w : World),b - a ≤ n → a ≤ b → b ≤ len → limit ≤ 62 → Own w w0.heap.size g q len l → RowKit.Below w0.heap.size w0 w →
 Calls Try.prog 79 #[.slice (some ⟨g,0,none⟩) len q,.int .i64 (a : Int),.int .i64 (b : Int),.int .i64 (limit : Int)] w fun e w' =>
  e = .returned (.tuple #[]) ∧ Aside0 (Own w' w0.heap.size g q len (pdq ltInt l.toArray a b limit true true).toList) ∧ Aside0 (RowKit.Below w0.heap.size w0 w')
set_option maxHeartbeats 4000000 in
set_option maxRecDepth 100000 in
theorem pdq_walk (g q len : Nat) (w0 : World) (hlen : len < 50) (n : Nat) (ih : ∀ m,m < n → PdqOk g q len w0 m) : PdqOk g q len w0 n := by
 intro l a b limit w hn hab hb hlim ho hB
 have HIH := Aside0.mk ih
 have HO0 := Aside0.mk ho
 have HB0 := Aside0.mk hB
 obtain ⟨T,hT⟩ : ∃ T,T = pdq ltInt l.toArray a b limit true true := ⟨_,rfl⟩
 rw [← hT]
 have HT := Aside0.mk hT
 clear ho hB ih hT
 go_enter Try.func79,Try.ntmps79
 go_wp2
 go_loopg [1,2,3,8,9,10,11,12,13,14,15,16,17,18] n (fun kq v1 v2 v3 v8 v9 v10 v11 v12 v13 v14 v15 v16 v17 v18 w' => ∃ (a b limit : Nat) (wb wp : Bool) (l : List Int),v1 = .int .i64 (a : Int) ∧ v2 = .int .i64 (b : Int) ∧ v3 = .int .i64 (limit : Int) ∧ v8 = .bool wb ∧ v9 = .bool wp ∧
  Aside0 (b - a ≤ kq ∧ kq ≤ n ∧ a ≤ b ∧ b ≤ len ∧ limit ≤ 62) ∧ Aside0 (T = pdq ltInt l.toArray a b limit wb wp) ∧ Aside0 (Own w' w0.heap.size g q len l) ∧ Aside0 (RowKit.Below w0.heap.size w0 w'))
 case atStart => exact ⟨a,b,limit,true,true,l,rfl,rfl,rfl,rfl,rfl,⟨hn,Nat.le_refl _,hab,hb,hlim⟩,HT,HO0,HB0⟩
 case round =>
  clear HT HO0 HB0 hn hab hb hlim
  obtain ⟨a,b,limit,wb,wp,l,rfl,rfl,rfl,rfl,rfl,HK,HT,HO,HB⟩ := hrel
  obtain ⟨hk1,hk2,hab,hb,hlim⟩ := HK.out
  have hll := HO.out.1
  by_cases h12 : b - a ≤ 12
  ·have q1 : decide ((b : Int) - (a : Int) ≤ 12) = true := decide_eq_true (by omega)
   have hp : pdq ltInt l.toArray a b limit wb wp = insertionSort ltInt l.toArray a b := by rw [pdq,if_pos h12]
   obtain ⟨k,hk⟩ := (ins_ev a b l hab (by omega) (by omega)).rounds
   have HC := Aside0.mk (slices_insertionSortOrdered_uint64.calls k (fun _ => True) _ l (a : Int) (b : Int) _ w0 wr HB.out HO.out.R hk)
   rw [← hp,← HT.out] at HC
   clear HO HB HT hk hp
   go_wp2_with (first|(go_at_call 83;(with_reducible refine HC.out.mono ?_);rintro e w' ⟨rfl,h1,h2,h3⟩;have H1 := Aside0.mk (Own.of h1);have H2 := Aside0.mk h2;clear h1 h2 h3))
   first|go_end0|((try simp only [Exit.inBlock,Exit.then]);refine bodyPost_ret (results_none rfl _ _ _) rfl ?_)
   exact ⟨rfl,H1,H2⟩
  ·by_cases h0 : limit = 0
   ·subst h0
    have q1 : decide ((b : Int) - (a : Int) ≤ 12) = false := decide_eq_false (by omega)
    have hp : pdq ltInt l.toArray a b 0 wb wp = heapSort ltInt l.toArray a b := by rw [pdq,if_neg h12,if_pos rfl]
    obtain ⟨k,hk⟩ := (heap_ev a b l (by omega) (by omega) (by omega)).rounds
    have HC := Aside0.mk (slices_heapSortOrdered_uint64.calls k (fun _ => True) _ l (a : Int) (b : Int) _ w0 wr HB.out HO.out.R hk)
    rw [← hp,← HT.out] at HC
    clear HO HB HT hk hp
    go_wp2_with (first|(go_at_call 84;(with_reducible refine HC.out.mono ?_);rintro e w' ⟨rfl,h1,h2,h3⟩;have H1 := Aside0.mk (Own.of h1);have H2 := Aside0.mk h2;clear h1 h2 h3))
    first|go_end0|((try simp only [Exit.inBlock,Exit.then]);refine bodyPost_ret (results_none rfl _ _ _) rfl ?_)
    exact ⟨rfl,H1,H2⟩
   ·have q1 : decide ((b : Int) - (a : Int) ≤ 12) = false := decide_eq_false (by omega)
    have q2 : ((limit : Int) == 0) = false := beq_eq_false_iff_ne.mpr (by omega)
    have hL : a + (b - a) = b := by omega
    go_upto_if 35 with (fail)
    go_cut [3] (fun v3 wc => ∃ (lim : Nat) (l1 : List Int),v3 = .int .i64 (lim : Int) ∧ Aside0 (lim = (if wb = true then limit else limit - 1) ∧ l1.toArray = (if wb = true then l.toArray else breakPatterns l.toArray a b)) ∧ Aside0 (Own wc w0.heap.size g q len l1) ∧ Aside0 (RowKit.Below w0.heap.size w0 wc))
    case first =>
     cases wb with
     | true =>
      go_wp2
      go_meet
      case rel => exact ⟨limit,l,rfl,⟨rfl,rfl⟩,HO,HB⟩
     | false =>
      have hbw := break_walk l g q a (b - a) w0 wr HB.out (by rw [hll];exact HO.out.2) (by omega) (by omega) (by omega) (by omega)
      rw [hll,hL] at hbw
      have HBW := Aside0.mk hbw
      have hw : IntKind.i64.wrap ((limit : Int) - 1) = ((limit - 1 : Nat) : Int) := by rw [wrapI_id (by omega) (by omega)];omega
      clear hbw HO HB
      go_wp2_with fail
      refine HBW.out.mono ?_
      rintro e w2 ⟨rfl,H1,H2⟩
      have H1' := Aside0.mk (Own.of_own H1.out)
      go_wp2_with fail
      go_meet
      case rel => exact ⟨limit - 1,_,by first|rfl|(congr 1;omega),⟨rfl,rfl⟩,H1',H2⟩
    case rest =>
     clear HO HB
     obtain ⟨lim,l1,rfl,HL,HO,HB⟩ := hcut
     have hl1 := HO.out.1
     have hlim2 : lim ≤ 62 := by rw [HL.out.1];split <;> omega
     have hstep := pdq_step l.toArray a b limit wb wp (by omega) (by omega) h0 l1.toArray HL.out.2 (by rw [List.size_toArray];omega) lim HL.out.1
     rw [← HT.out] at hstep
     have hch := choose_hint l1.toArray a b (by omega) (by omega)
     have hpv := choosePivot_holds ltInt l1.toArray a b (by omega)
     have hpw := pivot_walk w0.heap.size l1 g q a b wc (by rw [hl1];exact HO.out.2) (by omega) (by omega) (by omega) (by omega)
     rw [hl1] at hpw
     obtain ⟨c,hc⟩ : ∃ c,c = choosePivot ltInt l1.toArray a b := ⟨_,rfl⟩
     rw [← hc] at hstep hch hpv hpw
     clear hc
     obtain ⟨pv,h⟩ := c
     dsimp only at hstep hch hpv hpw
     obtain ⟨hv,hhv⟩ : ∃ x,x = hintN h := ⟨_,rfl⟩
     have q3 : (hv == 2) = false := by rw [hhv];cases h <;> first|rfl|exact absurd rfl hch
     have q4 : decide (h = .increasing) = (hv == 1) := by rw [hhv];cases h <;> first|rfl|exact absurd rfl hch
     rw [q4] at hstep
     rw [← hhv] at hpw
     have HS := Aside0.mk hstep
     have HPW := Aside0.mk hpw
     clear hstep hpw hch hhv q4 HT HL
     obtain ⟨hpv1,hpv2⟩ := hpv
     go_upto_region 15 with (first|(go_at_call 86;(with_reducible refine HPW.out.mono ?_);rintro e w2 ⟨rfl,B2⟩;have HO2 := Aside0.mk (show Own w2 w0.heap.size g q len l1 from ⟨HO.out.1,pw_own_below HO.out.2 B2.out⟩);have HB2 := Aside0.mk (below_step HB.out B2.out);clear B2))
     clear HO HB HPW
     go_cut [68] (fun v68 wd => v68 = .bool (wb && wp && (hv == 1)) ∧ Aside0 (Own wd w0.heap.size g q len l1) ∧ Aside0 (RowKit.Below w0.heap.size w0 wd))
     case first =>
      cases wb <;> cases wp
      all_goals (
       go_wp2
       go_meet
       case rel => exact ⟨by first|rfl|simp,HO2,HB2⟩)
     case rest =>
      clear HO2 HB2
      obtain ⟨rfl,HO,HB⟩ := hcut
      obtain ⟨t,ht⟩ : ∃ t,t = (wb && wp && (hv == 1)) := ⟨_,rfl⟩
      have hst := HS.out
      rw [← ht] at hst ⊢
      have HS2 := Aside0.mk hst
      clear hst ht HS q3
      go_upto_if 68 with (fail)
      go_cut [] (fun wd => Aside0 (T = pdqB l1.toArray a b lim wb wp pv) ∧ Aside0 (Own wd w0.heap.size g q len l1) ∧ Aside0 (RowKit.Below w0.heap.size w0 wd))
      case first =>
       cases t with
       | false =>
        have HT2 := Aside0.mk (show T = pdqB l1.toArray a b lim wb wp pv by have := HS2.out;rwa [Bool.false_and,if_neg (by decide)] at this)
        go_wp2
        go_meet
        case rel => exact ⟨HT2,HO,HB⟩
       | true =>
        obtain ⟨k,hk⟩ := (pins_ev a b l1 (by omega) (by omega) (by omega) (by omega)).rounds
        rw [partialIns_small a b l1.toArray (by omega)] at hk
        dsimp only at hk
        have hT2 := HS2.out
        rw [Bool.true_and] at hT2
        obtain ⟨s,hs⟩ : ∃ s,s = decide (scanSorted ltInt l1.toArray b (a + 1) = b) := ⟨_,rfl⟩
        rw [← hs] at hk hT2
        have HC := Aside0.mk (slices_partialInsertionSortOrdered_uint64.calls k (fun _ => True) _ l1 (a : Int) (b : Int) s l1 w0 wc HB.out HO.out.R hk)
        clear hs hk HO HB HS2
        cases s with
        | true =>
         have HT2 := Aside0.mk (show T.toList = l1 by rw [hT2,if_pos rfl])
         clear hT2
         go_wp2_with (first|(go_at_call 88;(with_reducible refine HC.out.mono ?_);rintro e w' ⟨rfl,h1,h2,h3⟩;have H1 := Aside0.mk (Own.of h1);have H2 := Aside0.mk h2;clear h1 h2 h3))
         first|go_end0|((try simp only [Exit.inBlock,Exit.then]);refine bodyPost_ret (results_none rfl _ _ _) rfl ?_)
         rw [HT2.out]
         exact ⟨rfl,H1,H2⟩
        | false =>
         have HT2 := Aside0.mk (show T = pdqB l1.toArray a b lim wb wp pv by rw [hT2,if_neg (by decide)])
         clear hT2
         go_wp2_with (first|(go_at_call 88;(with_reducible refine HC.out.mono ?_);rintro e w' ⟨rfl,h1,h2,h3⟩;have H1 := Aside0.mk (Own.of h1);have H2 := Aside0.mk h2;clear h1 h2 h3))
         go_meet
         case rel => exact ⟨HT2,H1,H2⟩
      case rest =>
       clear HO HB HS2
       obtain ⟨HT,HO,HB⟩ := hcut
       have hsz : l1.toArray.size = len := by rw [List.size_toArray];exact hl1
       obtain ⟨x,hx⟩ : ∃ x,x = ltInt l1.toArray[a - 1]! l1.toArray[pv]! := ⟨_,rfl⟩
       have hTB := HT.out
       unfold pdqB at hTB
       rw [← hx] at hTB
       obtain ⟨z,hz⟩ : ∃ z,z = (decide (a > 0) && !x) := ⟨_,rfl⟩
       rw [← hz] at hTB
       have HTB := Aside0.mk hTB
       clear hTB HT
       go_upto_region 17 with (fail)
       go_cut [87] (fun v87 wd => v87 = .bool z ∧ Aside0 (Own wd w0.heap.size g q len l1) ∧ Aside0 (RowKit.Below w0.heap.size w0 wd))
       case first =>
        clear HTB hsz
        by_cases ha0 : 0 < a
        ·have g1 : decide ((a : Int) > 0) = true := decide_eq_true (by omega)
         have g2 : decide ((0 : Int) < (a : Int)) = true := decide_eq_true (by omega)
         have c1 := (own_at HO.out.2 ((a - 1 : Nat) : Int) (by omega) (by omega)).1
         have c2 := (own_at HO.out.2 (pv : Int) (by omega) (by omega)).1
         rw [Int.toNat_natCast] at c1 c2
         have hq : ltInt (rd l1 ((a - 1 : Nat) : Int)) (rd l1 (pv : Int)) = x := by rw [srd,srd,hx]
         obtain ⟨x1,e1⟩ : ∃ y,rd l1 ((a - 1 : Nat) : Int) = y := ⟨_,rfl⟩
         obtain ⟨x2,e2⟩ : ∃ y,rd l1 (pv : Int) = y := ⟨_,rfl⟩
         rw [e1] at c1 hq
         rw [e2] at c2 hq
         have HQ := Aside0.mk (fun w => less_calls hq w)
         have p1 : ((0 : Int) ≤ (a : Int) - 1) = True := eq_true (by omega)
         have p2 : ((a : Int) - 1 < (len : Int)) = True := eq_true (by omega)
         have p3 : ((0 : Int) ≤ (pv : Int)) = True := eq_true (by omega)
         have p4 : ((pv : Int) < (len : Int)) = True := eq_true (by omega)
         have hzx : z = !x := by rw [hz,decide_eq_true ha0,Bool.true_and]
         have hwr : IntKind.i64.wrap ((a : Int) - 1) = (a : Int) - 1 := wrapI_id (by omega) (by omega)
         have htn : ((a : Int) - 1).toNat = a - 1 := by omega
         have HZX := Aside0.mk hzx
         clear hx hz hzx e1 e2 hq
         go_quiet ((refine Calls.quiet_of (HQ.out _)))
         clear hwr htn
         go_wp2
         go_meet
         case rel => exact ⟨by rw [HZX.out],⟨HO.out.1,pw_own_drewN HO.out.2 _⟩,⟨pw_below_drewN HB.out _⟩⟩
        ·have g1 : decide ((a : Int) > 0) = false := decide_eq_false (by omega)
         have g2 : decide ((0 : Int) < (a : Int)) = false := decide_eq_false (by omega)
         have hzx : z = false := by rw [hz,decide_eq_false ha0,Bool.false_and]
         have HZX := Aside0.mk hzx
         clear hx hz hzx
         go_quiet (fail)
         go_wp2
         go_meet
         case rel => exact ⟨by rw [HZX.out],⟨HO.out.1,pw_own_drewN HO.out.2 _⟩,⟨pw_below_drewN HB.out _⟩⟩
       case rest =>
        clear HO HB hx hz
        obtain ⟨rfl,HO,HB⟩ := hcut
        cases z with
        | true =>
         have hT := HTB.out
         rw [if_pos rfl] at hT
         obtain ⟨k,hk⟩ := (peq_ev a b pv l1 (by omega) hpv1 hpv2 (by omega) (by omega)).rounds
         have hr := peq_range a b (a + 1) (b - 1) (swp l1.toArray a pv) (by omega) (by omega)
         have hr2 : a + 1 ≤ (partitionEqual ltInt l1.toArray a b pv).1 ∧ (partitionEqual ltInt l1.toArray a b pv).1 ≤ b := by
          unfold partitionEqual
          omega
         obtain ⟨r,hr3⟩ : ∃ r,r = partitionEqual ltInt l1.toArray a b pv := ⟨_,rfl⟩
         rw [← hr3] at hT hk hr2
         obtain ⟨mid,d4⟩ := r
         dsimp only at hT hk hr2
         have HC := Aside0.mk (slices_partitionEqualOrdered_uint64.calls k (fun _ => True) _ l1 (a : Int) (b : Int) (pv : Int) (mid : Int) d4.toList w0 wc HB.out HO.out.R hk)
         have HT3 := Aside0.mk (show T = pdq ltInt d4.toList.toArray mid b lim wb wp from hT)
         obtain ⟨m1,m2⟩ := hr2
         have HK2 := Aside0.mk (show b - mid ≤ b - (a + 1) ∧ b - (a + 1) ≤ n ∧ mid ≤ b ∧ b ≤ len ∧ lim ≤ 62 by omega)
         clear hT hk hr hr3 HO HB HTB hsz
         go_wp2_with (first|(go_at_call 90;(with_reducible refine HC.out.mono ?_);rintro e w' ⟨rfl,h1,h2,h3⟩;have H1 := Aside0.mk (Own.of h1);have H2 := Aside0.mk h2;clear h1 h2 h3))
         go_roundg (b - (a + 1))
         case measure => omega
         case rel => exact ⟨mid,b,lim,wb,wp,d4.toList,rfl,rfl,rfl,rfl,rfl,HK2,HT3,H1,H2⟩
        | false =>
         have hT := HTB.out
         rw [if_neg (by decide)] at hT
         obtain ⟨k,hk⟩ := (part_ev a b pv l1 (by omega) hpv1 hpv2 (by omega) (by omega)).rounds
         have hpt := partition_holds ltInt swo l1.toArray a b pv hpv1 hpv2 (by omega)
         have hr2 : a ≤ (Go.Sort.partition ltInt l1.toArray a b pv).1 ∧ (Go.Sort.partition ltInt l1.toArray a b pv).1 < b := ⟨hpt.1,hpt.2.1⟩
         clear hpt
         obtain ⟨r,hr3⟩ : ∃ r,r = Go.Sort.partition ltInt l1.toArray a b pv := ⟨_,rfl⟩
         rw [← hr3] at hT hk hr2
         obtain ⟨mid,ap,d4⟩ := r
         dsimp only at hT hk hr2
         have HC := Aside0.mk (slices_partitionOrdered_uint64.calls k (fun _ => True) _ l1 (a : Int) (b : Int) (pv : Int) (mid : Int) ap d4.toList w0 wc HB.out HO.out.R hk)
         obtain ⟨m1,m2⟩ := hr2
         by_cases hlr : mid - a < b - mid
         ·rw [if_pos hlr] at hT
          have hrec := fun (w : World) (ho : Own w w0.heap.size g q len d4.toList) (hB : RowKit.Below w0.heap.size w0 w) => HIH.out (mid - a) (by omega) d4.toList a mid lim w (Nat.le_refl _) (by omega) (by omega) hlim2 ho hB
          have HRec := Aside0.mk hrec
          have HT3 := Aside0.mk (show T = pdq ltInt (pdq ltInt d4.toList.toArray a mid lim true true).toList.toArray (mid + 1) b lim (decide (mid - a ≥ (b - a) / 8)) ap from hT)
          have HK2 := Aside0.mk (show b - (mid + 1) ≤ b - (a + 1) ∧ b - (a + 1) ≤ n ∧ mid + 1 ≤ b ∧ b ≤ len ∧ lim ≤ 62 by omega)
          have q5 : decide ((mid : Int) - (a : Int) < (b : Int) - (mid : Int)) = true := decide_eq_true (by omega)
          clear hrec hT hk hr3 HO HB HTB hsz
          go_wp2_with (first
           | (go_at_call 91;(with_reducible refine HC.out.mono ?_);rintro e w' ⟨rfl,h1,h2,h3⟩;have H1 := Aside0.mk (Own.of h1);have H2 := Aside0.mk h2;clear h1 h2 h3)
           | (go_at_call 79;(with_reducible refine (HRec.out _ H1.out H2.out).mono ?_);rintro e w'' ⟨rfl,H3,H4⟩))
          go_roundg (b - (a + 1))
          case measure => omega
          case rel => exact ⟨mid + 1,b,lim,decide (mid - a ≥ (b - a) / 8),ap,_,by go_num,rfl,rfl,by congr 1;exact decide_eq_decide.mpr (by omega),rfl,HK2,HT3,H3,H4⟩
         ·rw [if_neg hlr] at hT
          have hrec := fun (w : World) (ho : Own w w0.heap.size g q len d4.toList) (hB : RowKit.Below w0.heap.size w0 w) => HIH.out (b - (mid + 1)) (by omega) d4.toList (mid + 1) b lim w (Nat.le_refl _) (by omega) (by omega) hlim2 ho hB
          have HRec := Aside0.mk hrec
          have HT3 := Aside0.mk (show T = pdq ltInt (pdq ltInt d4.toList.toArray (mid + 1) b lim true true).toList.toArray a mid lim (decide (b - mid ≥ (b - a) / 8)) ap from hT)
          have HK2 := Aside0.mk (show mid - a ≤ b - (a + 1) ∧ b - (a + 1) ≤ n ∧ a ≤ mid ∧ mid ≤ len ∧ lim ≤ 62 by omega)
          have q5 : decide ((mid : Int) - (a : Int) < (b : Int) - (mid : Int)) = false := decide_eq_false (by omega)
          have hmw : (mid : Int) + 1 = ((mid + 1 : Nat) : Int) := by omega
          have HMW := Aside0.mk hmw
          clear hmw hrec hT hk hr3 HO HB HTB hsz
          go_wp2_with (first
           | (go_at_call 91;(with_reducible refine HC.out.mono ?_);rintro e w' ⟨rfl,h1,h2,h3⟩;have H1 := Aside0.mk (Own.of h1);have H2 := Aside0.mk h2;clear h1 h2 h3)
           | (go_at_call 79;rw [HMW.out];(with_reducible refine (HRec.out _ H1.out H2.out).mono ?_);rintro e w'' ⟨rfl,H3,H4⟩))
          go_roundg (b - (a + 1))
          case measure => omega
          case rel => exact ⟨a,mid,lim,decide (b - mid ≥ (b - a) / 8),ap,_,rfl,rfl,rfl,by congr 1;exact decide_eq_decide.mpr (by omega),rfl,HK2,HT3,H3,H4⟩
theorem pdq_all (g q len : Nat) (w0 : World) (hlen : len < 50) : ∀ n,PdqOk g q len w0 n := fun n => Nat.strongRecOn n fun n ih => pdq_walk g q len w0 hlen n ih
end Go.Proofs.Ytjnkkfdlcbcelaa.Srt
end
section
namespace Go.Proofs.Ytjnkkfdlcbcelaa.Hw
open Go.RowKit Go.Proofs.Ytjnkkfdlcbcelaa.Pr Go.Proofs.YtjnkkfdlcbcelaaW.PrintWords Go.Proofs.YtjnkkfdlcbcelaaW.PrintLast Go.Proofs.YtjnkkfdlcbcelaaW.PrintMore Go.Proofs.Ytjnkkfdlcbcelaa.E
theorem less_eq (a b : Int) : cmp_Less_uint64.f a b = some (decide (a < b)) := by
 unfold cmp_Less_uint64.f cmp_isNaN_uint64.f
 simp
theorem w64 {n : Int} (h0 : -9223372036854775808 ≤ n) (h1 : n < 9223372036854775808) : wrap64 n = n := by unfold wrap64;omega
theorem rd_nat (l : List Int) (i : Nat) : rd l (i : Int) = l.getD i 0 := by unfold rd;rw [Int.toNat_natCast]
theorem getD_in (l : List Int) (i : Nat) (h : i < l.length) : l.getD i 0 = l[i] := by rw [List.getD_eq_getElem?_getD,List.getElem?_eq_getElem h];rfl
theorem getD_set (l : List Int) (i j : Nat) (v : Int) (h : j < l.length) : (l.set i v).getD j 0 = if i = j then v else l.getD j 0 := by
 rw [getD_in _ _ (by simpa using h),List.getElem_set,getD_in _ _ h]
def Ord (l : List Int) (i j : Nat) : Prop := ∀ p q,p < q → q ≤ i → q ≠ j → l.getD p 0 ≤ l.getD q 0
theorem ins_ends : ∀ (m i j : Nat) (x : List Int),x.length ≤ 1099511627776 → i < x.length → j ≤ i → Ord x i j → (x.length - i) * (x.length + 2) + j < m →
  ∃ k r,slices_insertionSortOrdered_uint64.l1 k x 0 (x.length : Int) (i : Int) (j : Int) = some r ∧ r.Perm x ∧ (∀ p q,p < q → q < r.length → r.getD p 0 ≤ r.getD q 0) := by
 intro m
 induction m with
 | zero => intro i j x _ _ _ _ h;omega
 | succ m ih =>
  intro i j x hx hi hj ho hm
  have next : (∀ p q,p < q → q ≤ i → x.getD p 0 ≤ x.getD q 0) → ∃ k r,slices_insertionSortOrdered_uint64.l0 k x 0 (x.length : Int) (wrap64 ((i : Int) + 1)) = some r ∧ r.Perm x ∧ (∀ p q,p < q → q < r.length → r.getD p 0 ≤ r.getD q 0) := by
   intro hs
   rw [w64 (by omega) (by omega)]
   by_cases hlt : i + 1 < x.length
   ·obtain ⟨k,r,h1,h2,h3⟩ := ih (i + 1) (i + 1) x hx hlt (Nat.le_refl _) (fun p q hpq hq hne => hs p q hpq (by omega)) (by
     have : (x.length - (i + 1)) * (x.length + 2) + (x.length + 2) = (x.length - i) * (x.length + 2) := by
      rw [← Nat.succ_mul];congr 1;omega
     omega)
    refine ⟨k + 1,r,?_,h2,h3⟩
    simp only [slices_insertionSortOrdered_uint64.l0]
    rw [if_pos (by omega),show (i : Int) + 1 = ((i + 1 : Nat) : Int) from by omega]
    exact h1
   ·refine ⟨1,x,?_,List.Perm.refl _,fun p q hpq hq => hs p q hpq (by omega)⟩
    simp only [slices_insertionSortOrdered_uint64.l0]
    rw [if_neg (by omega)]
  by_cases hj0 : j = 0
  ·subst hj0
   obtain ⟨k,r,h1,h2,h3⟩ := next (fun p q hpq hq => ho p q hpq hq (by omega))
   refine ⟨k + 1,r,?_,h2,h3⟩
   simp only [slices_insertionSortOrdered_uint64.l1]
   rw [if_neg (by omega)]
   exact h1
  ·obtain ⟨t,rfl⟩ : ∃ t,j = t + 1 := ⟨j - 1,by omega⟩
   have e1 : wrap64 (((t + 1 : Nat) : Int) - 1) = (t : Int) := by rw [w64 (by omega) (by omega)];omega
   by_cases hlt : x.getD (t + 1) 0 < x.getD t 0
   ·have hl2 : ((x.set (t + 1) (x.getD t 0)).set t (x.getD (t + 1) 0)).length = x.length := by simp
    have hg : ∀ p,p < x.length → ((x.set (t + 1) (x.getD t 0)).set t (x.getD (t + 1) 0)).getD p 0 = if p = t then x.getD (t + 1) 0 else if p = t + 1 then x.getD t 0 else x.getD p 0 := by
     intro p hp
     rw [getD_set _ _ _ _ (by simpa using hp),getD_set _ _ _ _ hp]
     by_cases a : t = p
     ·subst a;rw [if_pos rfl,if_pos rfl]
     ·have a' : ¬ p = t := fun h => a h.symm
      rw [if_neg a,if_neg a']
      by_cases b : t + 1 = p
      ·subst b;rw [if_pos rfl]
      ·have b' : ¬ p = t + 1 := fun h => b h.symm
       rw [if_neg b,if_neg b']
    obtain ⟨k,r,h1,h2,h3⟩ := ih i t ((x.set (t + 1) (x.getD t 0)).set t (x.getD (t + 1) 0)) (by rw [hl2];exact hx) (by rw [hl2];exact hi) (by omega) (by
     intro p q hpq hq hne
     rw [hg p (by omega),hg q (by omega)]
     have o1 := ho t (t + 1)
     by_cases a : p = t
     ·rw [if_pos a]
      rw [if_neg hne]
      by_cases b : q = t + 1
      ·rw [if_pos b];omega
      ·rw [if_neg b];exact ho (t + 1) q (by omega) hq b
     ·rw [if_neg a,if_neg hne]
      by_cases a2 : p = t + 1
      ·rw [if_pos a2,if_neg (by omega)];exact ho t q (by omega) hq (by omega)
      ·rw [if_neg a2]
       by_cases b : q = t + 1
       ·rw [if_pos b];exact ho p t (by omega) (by omega) (by omega)
       ·rw [if_neg b];exact ho p q hpq hq b) (by rw [hl2];omega)
    rw [hl2] at h1
    refine ⟨k + 1,r,?_,h2.trans ?_,h3⟩
    ·simp only [slices_insertionSortOrdered_uint64.l1]
     rw [e1,if_pos (by omega),if_pos (by omega),if_pos (by omega),if_pos (by omega),if_pos (by omega),less_eq,rd_nat,rd_nat]
     simp only [Option.bind_some]
     rw [if_pos (by simpa using hlt),Int.toNat_natCast,Int.toNat_natCast]
     exact h1
    ·rw [getD_in _ _ (by omega : t < x.length),getD_in _ _ (by omega : t + 1 < x.length)]
     exact List.set_set_perm (by omega) (by omega)
   ·obtain ⟨k,r,h1,h2,h3⟩ := next (fun p q hpq hq => by
     by_cases a : q = t + 1
     ·subst a
      by_cases b : p = t
      ·subst b;omega
      ·have := ho p t (by omega) (by omega) (by omega);omega
     ·exact ho p q hpq hq a)
    refine ⟨k + 1,r,?_,h2,h3⟩
    simp only [slices_insertionSortOrdered_uint64.l1]
    rw [e1,if_pos (by omega),if_pos (by omega),if_pos (by omega),if_pos (by omega),if_pos (by omega),less_eq,rd_nat,rd_nat]
    simp only [Option.bind_some]
    rw [if_neg (by simpa using hlt)]
    exact h1
theorem ins_sorts (x : List Int) (hx : x.length ≤ 1099511627776) : ∃ k r,slices_insertionSortOrdered_uint64.f k x 0 (x.length : Int) = some r ∧ r.Perm x ∧ (∀ p q,p < q → q < r.length → r.getD p 0 ≤ r.getD q 0) := by
 unfold slices_insertionSortOrdered_uint64.f
 rw [w64 (by omega) (by omega)]
 by_cases h : 1 < x.length
 ·obtain ⟨k,r,h1,h2,h3⟩ := ins_ends _ 1 1 x hx h (Nat.le_refl _) (fun p q hpq hq hne => by omega) (Nat.lt_succ_self _)
  refine ⟨k + 1,r,?_,h2,h3⟩
  simp only [slices_insertionSortOrdered_uint64.l0]
  rw [if_pos (by omega)]
  exact h1
 ·refine ⟨1,x,?_,List.Perm.refl _,fun p q hpq hq => by omega⟩
  simp only [slices_insertionSortOrdered_uint64.l0]
  rw [if_neg (by omega)]
theorem diff_iff {r : List Int} (hs : ∀ p q,p < q → q < r.length → r.getD p 0 ≤ r.getD q 0) : Diff r r.length ↔ r.Nodup := by
 constructor
 ·intro h
  rw [List.nodup_iff_pairwise_ne,List.pairwise_iff_getElem]
  intro i j hi hj hij
  have h1 := h i (by omega)
  rw [show (i : Int) + 1 = ((i + 1 : Nat) : Int) from by omega,rd_nat,rd_nat] at h1
  have h2 := hs i (i + 1) (by omega) (by omega)
  rw [← getD_in _ _ hi,← getD_in _ _ hj]
  by_cases e : j = i + 1
  ·subst e;omega
  ·have := hs (i + 1) j (by omega) hj;omega
 ·intro h i hi
  rw [List.nodup_iff_pairwise_ne,List.pairwise_iff_getElem] at h
  rw [show (i : Int) + 1 = ((i + 1 : Nat) : Int) from by omega,rd_nat,rd_nat,getD_in _ _ hi,getD_in _ _ (by omega : i < r.length)]
  exact fun e => h i (i + 1) (by omega) hi (by omega) e.symm
set_option maxHeartbeats 1000000 in
set_option maxRecDepth 100000 in
theorem unlike_calls (A : Option Addr) (c : Nat) (l : List Int) (w : World) (hr : Kd.C (Kd.int .u64) w A l.length l) (hc : l.length ≤ c) (hl : l.length ≤ 12) :
  Calls Try.prog 52 #[.slice A l.length c] w fun e w' => e = .returned (.bool (decide l.Nodup)) ∧ Below w.heap.size w w' := by
 obtain ⟨k,r,h1,h2,h3⟩ := ins_sorts l (by omega)
 have hlen : bits_Len.f 3 (l.length : Int) = some (([0,1,2,2,3,3,3,3,4,4,4,4,4] : List Int).getD l.length 0) := by
  have h : l.length = 0 ∨ l.length = 1 ∨ l.length = 2 ∨ l.length = 3 ∨ l.length = 4 ∨ l.length = 5 ∨ l.length = 6 ∨ l.length = 7 ∨ l.length = 8 ∨ l.length = 9 ∨ l.length = 10 ∨ l.length = 11 ∨ l.length = 12 := by omega
  rcases h with h|h|h|h|h|h|h|h|h|h|h|h|h <;> rw [h] <;> exact (by first|rfl|decide +kernel)
 have hrl : r.length = l.length := h2.length_eq
 have HD := Aside0.mk ((diff_iff h3).trans h2.nodup_iff)
 have HR := Aside0.mk hrl
 have HL := Aside0.mk hlen
 have H1 := Aside0.mk h1
 have hcl := Aside0.mk (clone_u64 A c l w hr hc (by omega))
 clear h1 h2 h3 hr hrl hlen
 obtain ⟨b,hb⟩ : ∃ b : Bool,b = decide l.Nodup := ⟨_,rfl⟩
 rw [← hb]
 have HBb := Aside0.mk hb
 clear hb
 go_enter Try.func52,Try.ntmps52
 go_wp2_with (first
  | (go_at_call 67;(with_reducible refine hcl.out.mono ?_);rintro e w1 ⟨v0,rfl,ho,hb1⟩;obtain ⟨A1,c1,rfl⟩ := Kd.R_slice ho;have hso := Aside0.mk (sort_small k 3 (fun _ => True) A1 c1 l r _ hl w w1 hb1 ho H1.out HL.out);clear ho hb1)
  | (go_at_call 68;(with_reducible refine hso.out.mono ?_);rintro e w2 ⟨rfl,ho,hb2⟩;rw [← HR.out] at ho;have hco := Aside0.mk (compact_u64 A1 c1 r (by rw [HR.out];omega) w w2 hb2 ho);rw [HR.out] at hco;clear ho hb2)
  | (go_at_call 69;(with_reducible refine hco.out.mono ?_);rintro e w3 ⟨hex,hb3⟩;obtain ⟨⟨A3,m,c3,rfl,hm⟩⟩ := hex;have HM := Aside0.mk hm;have HB3 := Aside0.mk hb3;clear hm hb3))
 go_ret
 refine ⟨?_,HB3.out⟩
 have e : ((m : Int) == (l.length : Int)) = b := by
  rw [HBb.out,Bool.eq_iff_iff,beq_iff_eq,decide_eq_true_iff,← HD.out,HR.out,← HM.out]
  omega
 rw [e]
 rfl
end Go.Proofs.Ytjnkkfdlcbcelaa.Hw
end
section
namespace Go.Proofs.Ytjnkkfdlcbcelaa.Hw
open Go.RowKit Go.Proofs.Ytjnkkfdlcbcelaa.Pr Go.Proofs.YtjnkkfdlcbcelaaW.PrintWords Go.Proofs.YtjnkkfdlcbcelaaW.PrintLast Go.Proofs.YtjnkkfdlcbcelaaW.PrintMore Go.Sort Go.Proofs.Ytjnkkfdlcbcelaa.Srt
theorem extract_all (l : List Int) (n : Nat) (h : n = l.length) : (l.toArray.extract 0 n).toList = l := by
 subst h
 simp
theorem pdq_perm (l : List Int) : (pdq ltInt l.toArray 0 l.length (bitsLen l.length) true true).toList.Perm l ∧
  (∀ p q,p < q → q < (pdq ltInt l.toArray 0 l.length (bitsLen l.length) true true).toList.length → (pdq ltInt l.toArray 0 l.length (bitsLen l.length) true true).toList.getD p 0 ≤ (pdq ltInt l.toArray 0 l.length (bitsLen l.length) true true).toList.getD q 0) := by
 obtain ⟨⟨h1,h2,h3⟩,h4⟩ := pdq_sorts ltInt swo l.toArray 0 l.length (bitsLen l.length) true true (Nat.zero_le _) (by rw [List.size_toArray];exact Nat.le_refl _) (Or.inl rfl)
 obtain ⟨T,hT⟩ : ∃ T,T = pdq ltInt l.toArray 0 l.length (bitsLen l.length) true true := ⟨_,rfl⟩
 rw [← hT] at h1 h2 h3 h4 ⊢
 clear hT
 obtain ⟨t⟩ := T
 rw [List.size_toArray,List.size_toArray] at h1
 rw [extract_all l _ rfl,extract_all t _ h1.symm] at h3
 refine ⟨h3,fun p q hpq hq => ?_⟩
 have hq' : q < t.length := hq
 have := h4 p q (Nat.zero_le _) hpq (by omega)
 rw [← srd,← srd,rd_nat,rd_nat] at this
 exact Int.not_lt.mp (fun hlt => by rw [show ltInt (t.getD q 0) (t.getD p 0) = decide (t.getD q 0 < t.getD p 0) from rfl,decide_eq_true hlt] at this;exact absurd this (by decide))
set_option maxHeartbeats 1000000 in
set_option maxRecDepth 100000 in
theorem sort_big (A : Option Addr) (c : Nat) (l : List Int) (hl : l.length < 50) (h0 : 0 < l.length) (w0 w : World) (hB : RowKit.Below w0.heap.size w0 w) (ho : Kd.R (Kd.int .u64) 22 w w0.heap.size (fun _ => True) (.slice A l.length c) l) :
  Calls Try.prog 68 #[.slice A l.length c] w fun e w' => e = .returned (.tuple #[]) ∧ Kd.R (Kd.int .u64) 22 w' w0.heap.size (fun _ => True) (.slice A l.length c) (pdq ltInt l.toArray 0 l.length (bitsLen l.length) true true).toList ∧ RowKit.Below w0.heap.size w0 w' := by
 obtain ⟨g,q,hv,hb0,how⟩ := R_open ho h0
 cases hv
 have HO := Aside0.mk (show Own w w0.heap.size g c l.length l from ⟨rfl,how⟩)
 have HB := Aside0.mk hB
 have HL := Aside0.mk (len_tab l.length hl)
 have hb62 : bitsLen l.length ≤ 62 := by
  have : ∀ n,n < 50 → bitsLen n ≤ 62 := by decide +kernel
  exact this _ hl
 clear ho how hB
 go_enter Try.func68,Try.ntmps68
 go_wp2_with (first
  | (go_at_call 80;(refine (bits_Len.calls 3 _ _ _ HL.out).mono ?_);rintro e w' ⟨rfl,⟨nd,rfl⟩⟩;have hq := pdq_all g c l.length w0 hl l.length l 0 l.length (bitsLen l.length) (w.drewN nd) (by omega) (Nat.zero_le _) (Nat.le_refl _) hb62 ⟨rfl,pw_own_drewN HO.out.2 nd⟩ (pw_below_drewN HB.out nd);rw [show ((0 : Nat) : Int) = 0 from rfl] at hq;have hc := Aside0.mk hq;clear hq)
  | (go_at_call 79;(with_reducible refine hc.out.mono ?_);rintro e w' ⟨rfl,H1,H2⟩))
 first|go_end0|((try simp only [Exit.inBlock,Exit.then]);refine bodyPost_ret (results_none rfl _ _ _) rfl ?_)
 exact ⟨rfl,H1.out.R,H2.out⟩
set_option maxHeartbeats 1000000 in
set_option maxRecDepth 100000 in
theorem unlike_big (A : Option Addr) (c : Nat) (l : List Int) (w : World) (hr : Kd.C (Kd.int .u64) w A l.length l) (hc : l.length ≤ c) (hl : l.length ≤ 49) :
  Calls Try.prog 52 #[.slice A l.length c] w fun e w' => e = .returned (.bool (decide l.Nodup)) ∧ RowKit.Below w.heap.size w w' := by
 by_cases h12 : l.length ≤ 12
 ·exact unlike_calls A c l w hr hc h12
 obtain ⟨h2,h3⟩ := pdq_perm l
 obtain ⟨r,hr0⟩ : ∃ r,r = (pdq ltInt l.toArray 0 l.length (bitsLen l.length) true true).toList := ⟨_,rfl⟩
 have hso0 := fun A1 c1 w1 hB ho => sort_big A1 c1 l (by omega) (by omega) w w1 hB ho
 rw [← hr0] at h2 h3 hso0
 clear hr0
 have hrl : r.length = l.length := h2.length_eq
 have HS := Aside0.mk hso0
 have HD := Aside0.mk ((diff_iff h3).trans h2.nodup_iff)
 have HR := Aside0.mk hrl
 have hcl := Aside0.mk (clone_u64 A c l w hr hc (by omega))
 clear h2 h3 hr hrl hso0
 obtain ⟨b,hb⟩ : ∃ b : Bool,b = decide l.Nodup := ⟨_,rfl⟩
 rw [← hb]
 have HBb := Aside0.mk hb
 clear hb
 go_enter Try.func52,Try.ntmps52
 go_wp2_with (first
  | (go_at_call 67;(with_reducible refine hcl.out.mono ?_);rintro e w1 ⟨v0,rfl,ho,hb1⟩;obtain ⟨A1,c1,rfl⟩ := Kd.R_slice ho;have hso := Aside0.mk (HS.out A1 c1 w1 hb1 ho);clear ho hb1)
  | (go_at_call 68;(with_reducible refine hso.out.mono ?_);rintro e w2 ⟨rfl,ho,hb2⟩;rw [← HR.out] at ho;have hco := Aside0.mk (compact_u64 A1 c1 r (by rw [HR.out];omega) w w2 hb2 ho);rw [HR.out] at hco;clear ho hb2)
  | (go_at_call 69;(with_reducible refine hco.out.mono ?_);rintro e w3 ⟨hex,hb3⟩;obtain ⟨⟨A3,m,c3,rfl,hm⟩⟩ := hex;have HM := Aside0.mk hm;have HB3 := Aside0.mk hb3;clear hm hb3))
 go_ret
 refine ⟨?_,HB3.out⟩
 have e : ((m : Int) == (l.length : Int)) = b := by
  rw [HBb.out,Bool.eq_iff_iff,beq_iff_eq,decide_eq_true_iff,← HD.out,HR.out,← HM.out]
  omega
 rw [e]
 rfl
end Go.Proofs.Ytjnkkfdlcbcelaa.Hw
end
section
namespace Go.Proofs.Ytjnkkfdlcbcelaa.Hw
open Go.RowKit Go.Proofs.Ytjnkkfdlcbcelaa.Pr Go.Proofs.YtjnkkfdlcbcelaaW.PrintWords Go.Proofs.YtjnkkfdlcbcelaaW.PrintLast Go.Proofs.YtjnkkfdlcbcelaaW.PrintMore Go.Proofs.Ytjnkkfdlcbcelaa.E
theorem rd_res' {p : Int} {l : List Int} (hl : ∀ x ∈ l,Res p x) (i : Nat) (hi : i < l.length) : Res p (rd l i) := by
 have e : rd l i = l[i] := by unfold rd;rw [Int.toNat_natCast,List.getD_eq_getElem?_getD,List.getElem?_eq_getElem hi];rfl
 rw [e];exact hl _ (List.getElem_mem _)
theorem mul_ne' {p : Int} (hp : Supp p) {a b : Int} (ha : Res p a) (h0 : a ≠ 0) (hb : Res p b) (h1 : b ≠ 0) : a * b % p ≠ 0 := by
 intro h
 have e := inv_spec hp ha h0
 have e2 : invp p a * (a * b) % p = b := by
  rw [← Int.mul_assoc,Int.mul_comm (invp p a),mulm (a' := 1) (b' := b) (by rw [e];have := hp.bd;exact (Int.emod_eq_of_lt (by omega) (by omega)).symm) rfl,Int.one_mul,hb.eq]
 rw [mulm (a := invp p a) (b := a * b) (b' := 0) rfl (by rw [h];simp),Int.mul_zero,Int.zero_emod] at e2
 exact h1 e2.symm
theorem sub_ne' {p : Int} (hp : Supp p) {a b : Int} (ha : Res p a) (hb : Res p b) (h : a ≠ b) : (a - b) % p ≠ 0 := by
 intro h0
 have h2 := Int.emod_emod_of_dvd
 have hd : p ∣ a - b := Int.dvd_of_emod_eq_zero h0
 obtain ⟨k,hk⟩ := hd
 obtain ⟨a0,a1⟩ := ha
 obtain ⟨b0,b1⟩ := hb
 have hk0 : k = 0 := by
  rcases Int.lt_trichotomy k 0 with h3|h3|h3
  ·have : p * k ≤ p * (-1) := Int.mul_le_mul_of_nonneg_left (by omega) (by omega)
   omega
  ·exact h3
  ·have : p * 1 ≤ p * k := Int.mul_le_mul_of_nonneg_left (by omega) (by omega)
   omega
 subst hk0
 simp at hk
 omega
def Box (w : World) (b : Nat) (x : Int) : Prop := w.heap[b]? = some (.cells #[.int .u64 x] 22 (0,0))
theorem Box.cell {w : World} {b : Nat} {x : Int} (h : Box w b x) : w.cell? ⟨b,0,none⟩ = some (.int .u64 x) := blk_cell h 0
theorem Box.frozen {w : World} {b : Nat} {x : Int} (h : Box w b x) : w.frozen? ⟨b,0,none⟩ = false := blk_frozen h 0
theorem Box.drewN {w : World} {b : Nat} {x : Int} (h : Box w b x) (n : Nat) : Box (w.drewN n) b x := h
theorem Box.far {w : World} {b : Nat} {x : Int} (h : Box w b x) {g : Nat} (hne : b ≠ g) (v : Value) : Box (w.setCell ⟨g,0,none⟩ v) b x := blk_far (p := ⟨g,0,none⟩) h hne v
theorem Box.put {w : World} {b : Nat} {x : Int} (h : Box w b x) (y : Int) : Box (w.setCell ⟨b,0,none⟩ (.int .u64 y)) b y := blk_put h 0 _ rfl
def othersN (xs : List Int) (but : Nat) : Nat → List Int
 | 0 => []
 | n + 1 => if n = but then othersN xs but n else othersN xs but n ++ [rd xs n]
end Go.Proofs.Ytjnkkfdlcbcelaa.Hw
end
