/- Part 2 of the proof's texts, joined in build order. -/
import Derived.Test.YtmdoaijkaaaglaaZQ71
set_option linter.unusedVariables false
set_option linter.unusedSimpArgs false
section
namespace Go.Proofs.Ytmdoaijkaaaglaa.Pr
open Go.RowKit Go.Proofs.YtmdoaijkaaaglaaW.PrintWords Go.Proofs.YtmdoaijkaaaglaaW.PrintLast Go.Proofs.YtmdoaijkaaaglaaW.PrintMore
attribute [local go_sem] max2_int min2_int max_two min_two max_three min_three max_four min_four
open Go.Proofs.Ytmdoaijkaaaglaa.Hw
mutual
def slices_heapSortOrdered_uint64.l0 : Nat → List Int → Int → Int → Int → Int → Option (List Int)
 | 0,_,_,_,_,_ => none
 | k + 1,x0,x6,x7,x8,x9 => if x9 ≥ 0 then ((slices_siftDownOrdered_uint64.f k x0 x9 x8 x6).bind fun t262 => (slices_heapSortOrdered_uint64.l0 k t262 x6 x7 x8 (wrap64 (x9 - 1)))) else (slices_heapSortOrdered_uint64.l1 k x0 x6 x7 (wrap64 (x8 - 1)))
def slices_heapSortOrdered_uint64.l1 : Nat → List Int → Int → Int → Int → Option (List Int)
 | 0,_,_,_,_ => none
 | k + 1,x0,x6,x7,x10 => if x10 ≥ 0 then (if 0 ≤ (wrap64 (x6 + x10)) then (if (wrap64 (x6 + x10)) < (x0.length : Int) then (if 0 ≤ x6 then (if x6 < (x0.length : Int) then ((slices_siftDownOrdered_uint64.f k ((x0.set (x6 : Int).toNat (rd x0 (wrap64 (x6 + x10)))).set ((wrap64 (x6 + x10)) : Int).toNat (rd x0 x6)) x7 x10 x6).bind fun t267 => (slices_heapSortOrdered_uint64.l1 k t267 x6 x7 (wrap64 (x10 - 1)))) else (none)) else (none)) else (none)) else (none)) else (some x0)
end
def slices_heapSortOrdered_uint64.f (k : Nat) (l0 : List Int) (a1 : Int) (a2 : Int) : Option (List Int) := slices_heapSortOrdered_uint64.l0 k l0 a1 0 (wrap64 (a2 - a1)) (wrap64 (Int.tdiv (wrap64 ((wrap64 (a2 - a1)) - 1)) 2))
def slices_heapSortOrdered_uint64.T10 : Bool × List (List Nat × List Nat) := (true,[([],[]),([],[]),([],[]),([],[]),([],[]),([3,4],[3,4]),([],[]),([],[]),([],[]),([7,8],[7,8]),([6,9],[6,9]),([10],[10]),([],[]),([],[]),([12,13],[12,13]),([14],[14]),([0,1,0,1,6,7,8,9,10,11,15],[0,1]),([16,11,0,1,6,7,8,9,10,11,15],[11,16]),([2,5,0,1,2,3,4,5,6,7,8,9,10,11,12,13,14,15,16,17],[2,5]),([18,15,17,0,1,2,3,4,5,6,7,8,9,10,11,12,13,14,15,16,17],[15,18])])
def slices_heapSortOrdered_uint64.B10 : List Nat := [0,0,0,0,0,24,0,0,0,384,960,1984,0,0,12288,28672,65475,131011,262143,524287]
theorem slices_heapSortOrdered_uint64.tab10 : rtab .any (opsOf Try.f106 10) = slices_heapSortOrdered_uint64.T10 := by kernel_rfl
theorem slices_heapSortOrdered_uint64.bits10 : waitsOk slices_heapSortOrdered_uint64.T10.2 slices_heapSortOrdered_uint64.B10 = true := by kernel_rfl
set_option maxHeartbeats 8000000 in
set_option maxRecDepth 100000 in
theorem slices_heapSortOrdered_uint64.calls (k : Nat) (P0_ : Nat → Prop) (u9000_ : Value) (l0 : List Int) (a1 : Int) (a2 : Int) (r : List Int) (w0 w : World) (hB : Below w0.heap.size w0 w) (ho0 : Kd.R (Kd.int .u64) 22 w w0.heap.size P0_ u9000_ l0) (h : slices_heapSortOrdered_uint64.f k l0 a1 a2 = some r) :
  Calls Try.prog 106 #[u9000_,.int .i64 a1,.int .i64 a2] w fun e w' => e = .returned (.tuple #[]) ∧ Kd.R (Kd.int .u64) 22 w' w0.heap.size (fun k_ => (P0_ k_ ∨ w.heap.size ≤ k_)) u9000_ r ∧ Below w0.heap.size w0 w' ∧ Kept w w' (fun k_ => P0_ k_) := by
 have HO0 := am (show Kd.R (Kd.int .u64) 22 w w0.heap.size (fun k_ => (P0_ k_ ∨ w.heap.size ≤ k_)) u9000_ l0 from Kd.R_mono ho0 (fun k_ hk => (.inl hk)))
 have HK := am (Kept.refl w (fun k_ => P0_ k_))
 have HW0 := am hB.size
 have HB := am hB
 clear hB
 have H : (slices_heapSortOrdered_uint64.l0 k l0 a1 0 (wrap64 (a2 - a1)) (wrap64 (Int.tdiv (wrap64 ((wrap64 (a2 - a1)) - 1)) 2))) = some r := h
 clear h
 have H' := am H
 clear H
 go_enter Try.func106,Try.ntmps106
 go_wp2
 go_loopg [9] k (fun kq v9 w' => ∃ (x0_1 : List Int) (x9_1 : Int),v9 = .int .i64 x9_1 ∧ Aside0 (slices_heapSortOrdered_uint64.l0 kq x0_1 a1 0 (wrap64 (a2 - a1)) x9_1 = some r) ∧ Aside0 (kq ≤ k) ∧ Aside0 (Kd.R (Kd.int .u64) 22 w' w0.heap.size (fun k_ => (P0_ k_ ∨ w.heap.size ≤ k_)) u9000_ x0_1) ∧ Aside0 (Kept w w' (fun k_ => P0_ k_)) ∧ Aside0 (Below w0.heap.size w0 w'))
 case atStart => exact ⟨(l0),(wrap64 (Int.tdiv (wrap64 ((wrap64 (a2 - a1)) - 1)) 2)),(by first|rfl|(simp;done)|(simp [*];done)),H',⟨Nat.le_refl _⟩,⟨by (with_reducible repeat (first|apply Kd.R_alloc|apply Kd.R_drewN|apply Kd.R_drew));exact HO0.out⟩,⟨by repeat (first|(with_reducible first|exact HK.out|apply Kept.alloc|apply Kept.drewN|apply Kept.drew)|exact HK.out)⟩,⟨bb HB⟩⟩
 case round =>
  clear H'
  try clear c1
  try clear p2
  obtain ⟨x0_1,x9_1,rfl,HA,HK1,HO_0,HK,HB⟩ := hrel
  cases gk with
  | zero => exact absurd HA.out (by simp [slices_heapSortOrdered_uint64.l0])
  | succ k1 =>
   have H := HA.out
   clear HA
   simp only [slices_heapSortOrdered_uint64.l0] at H
   by_cases c4 : x9_1 ≥ 0
   ·rw [if_pos c4] at H
    have c4b0 : decide (0 ≤ x9_1) = true := decide_eq_true c4
    clear c4
    replace H := Option.bind_eq_some_iff.mp H
    obtain ⟨t262,A50,H⟩ := H
    try dsimp only at H
    have A5 := am A50
    clear A50
    have H' := am H
    clear H
    obtain ⟨Ao6,co6,eo6⟩ := Kd.R_slice HO_0.out
    subst eo6
    go_wp2_with (first|((with_reducible refine gate_callee (f := 115) rfl ?_);refine goesL_ (some 26) rfl rfl Try.func115 (by kernel_rfl) rfl #[.slice Ao6 x0_1.length co6,.int .i64 x9_1,.int .i64 (wrap64 (a2 - a1)),.int .i64 a1] rfl (by (try simp only [List.map_toArray,List.map_cons,List.map_nil]);first|done|rfl|(simp only [List.length_drop,List.length_take];rfl)) ?_;(with_reducible refine (slices_siftDownOrdered_uint64.calls k1 (fun k_ => some k_ = (.slice Ao6 x0_1.length co6 : Value).ownBlock) (.slice Ao6 x0_1.length co6) x0_1 x9_1 (wrap64 (a2 - a1)) a1 t262 w0 _ ?side1 ?side2 A5.out).mono ?_);(case side1 => repeat (first|(with_reducible first|exact HB.out|apply below_alloc|apply pw_below_drewN|apply below_drew1)|exact HB.out));(case side2 => exact Kd.R_tight rfl HO_0.out);rintro e w7 ⟨rfl,hy0,hb,hkp⟩;refine ⟨_,rfl,?_⟩;have n0_ := am (Kd.R_reok rfl hy0 (fun k_ e_ => HO_0.out.1 k_ e_));have n1_ := am (Kept.then_ (S := (fun k_ => P0_ k_)) (by repeat (first|(with_reducible first|exact HK.out|apply Kept.alloc|apply Kept.drewN|apply Kept.drew)|exact HK.out)) hkp (fun k_ hs_ => (fun e_ => (HO_0.out.1 k_ e_.symm)) hs_));have n2_ := am (hb);clear HO_0 HK HB;have HO_0 := n0_;have HK := n1_;have HB := n2_;clear n0_ n1_ n2_;(try clear hb);(try clear hkp);(try clear hy0)))
    go_roundg k1
    case measure => have := HK1.out;omega
    case rel => exact ⟨(t262),(wrap64 (x9_1 - 1)),(by first|rfl|(simp;done)|(simp [*];done)),H',⟨by have := HK1.out;omega⟩,⟨by (with_reducible repeat (first|apply Kd.R_alloc|apply Kd.R_drewN|apply Kd.R_drew));exact HO_0.out⟩,⟨by repeat (first|(with_reducible first|exact HK.out|apply Kept.alloc|apply Kept.drewN|apply Kept.drew)|exact HK.out)⟩,⟨bb HB⟩⟩
   ·rw [if_neg c4] at H
    have c4b0 : decide (0 ≤ x9_1) = false := decide_eq_false c4
    clear c4
    have H' := am H
    clear H
    go_wp2
    go_loopg [10] k1 (fun kq v10 w' => ∃ (x0_2 : List Int) (x10_2 : Int),v10 = .int .i64 x10_2 ∧ Aside0 (slices_heapSortOrdered_uint64.l1 kq x0_2 a1 0 x10_2 = some r) ∧ Aside0 (kq ≤ k1) ∧ Aside0 (Kd.R (Kd.int .u64) 22 w' w0.heap.size (fun k_ => (P0_ k_ ∨ w.heap.size ≤ k_)) u9000_ x0_2) ∧ Aside0 (Kept w w' (fun k_ => P0_ k_)) ∧ Aside0 (Below w0.heap.size w0 w'))
    case atStart => exact ⟨(x0_1),(wrap64 ((wrap64 (a2 - a1)) - 1)),(by first|rfl|(simp;done)|(simp [*];done)),H',⟨Nat.le_refl _⟩,⟨by (with_reducible repeat (first|apply Kd.R_alloc|apply Kd.R_drewN|apply Kd.R_drew));exact HO_0.out⟩,⟨by repeat (first|(with_reducible first|exact HK.out|apply Kept.alloc|apply Kept.drewN|apply Kept.drew)|exact HK.out)⟩,⟨bb HB⟩⟩
    case round =>
     clear H'
     try clear c1
     try clear p2
     try clear c4
     try clear c4b0
     try clear p6
     try clear p2
     obtain ⟨x0_2,x10_2,rfl,HA,HK2,HO_0,HK,HB⟩ := hrel
     cases gk with
     | zero => exact absurd HA.out (by simp [slices_heapSortOrdered_uint64.l1])
     | succ k2 =>
      have H := HA.out
      clear HA
      simp only [slices_heapSortOrdered_uint64.l1] at H
      by_cases c8 : x10_2 ≥ 0
      ·rw [if_pos c8] at H
       have c8b0 : decide (0 ≤ x10_2) = true := decide_eq_true c8
       clear c8
       obtain ⟨ji9,hji9⟩ : ∃ j_ : Int,(wrap64 (a1 + x10_2)) = j_ := ⟨_,rfl⟩
       first|rw [hji9] at H|simp only [hji9] at H
       have hji9w : (IntKind.i64.wrap (a1 + x10_2)) = ji9 := (i64_w _).trans hji9
       by_cases c10 : 0 ≤ (ji9)
       ·rw [if_pos c10] at H
        have c10b0 : decide (0 ≤ (ji9)) = true := decide_eq_true c10
        clear c10
        by_cases c11 : (ji9) < (x0_2.length : Int)
        ·rw [if_pos c11] at H
         have c11b0 : decide ((ji9) < (x0_2.length : Int)) = true := decide_eq_true c11
         clear c11
         by_cases c12 : 0 ≤ a1
         ·rw [if_pos c12] at H
          have c12b0 : decide (0 ≤ a1) = true := decide_eq_true c12
          clear c12
          by_cases c13 : a1 < (x0_2.length : Int)
          ·rw [if_pos c13] at H
           have c13b0 : decide (a1 < (x0_2.length : Int)) = true := decide_eq_true c13
           clear c13
           obtain ⟨y265,hy265⟩ : ∃ y_ : List Int,y_ = (x0_2.set (a1 : Int).toNat (rd x0_2 (ji9))) := ⟨_,rfl⟩
           replace H : ((slices_siftDownOrdered_uint64.f k2 (y265.set ((ji9) : Int).toNat (rd x0_2 a1)) 0 x10_2 a1).bind fun t267 => (slices_heapSortOrdered_uint64.l1 k2 t267 a1 0 (wrap64 (x10_2 - 1)))) = some r := by first|(rw [hy265];with_reducible exact H)|(have H2_ := (Option.bind_some _ _).symm.trans H;rw [hy265];with_reducible exact H2_)|(have H2_ := (Option.bind_some _ _).symm.trans H;with_reducible exact H2_)|with_reducible exact H|(rw [hy265];exact H)|exact H
           have Ny265 := am hy265
           clear hy265
           obtain ⟨y266,hy266⟩ : ∃ y_ : List Int,y_ = (y265.set ((ji9) : Int).toNat (rd x0_2 a1)) := ⟨_,rfl⟩
           replace H : ((slices_siftDownOrdered_uint64.f k2 y266 0 x10_2 a1).bind fun t267 => (slices_heapSortOrdered_uint64.l1 k2 t267 a1 0 (wrap64 (x10_2 - 1)))) = some r := by first|(rw [hy266];with_reducible exact H)|(have H2_ := (Option.bind_some _ _).symm.trans H;rw [hy266];with_reducible exact H2_)|(have H2_ := (Option.bind_some _ _).symm.trans H;with_reducible exact H2_)|with_reducible exact H|(rw [hy266];exact H)|exact H
           have Ny266 := am hy266
           clear hy266
           replace H := Option.bind_eq_some_iff.mp H
           obtain ⟨t267,A160,H⟩ := H
           try dsimp only at H
           have A16 := am A160
           clear A160
           have H' := am H
           clear H
           try go_wp2
           have n0_ := am (Kd.R_drew HO_0.out)
           have n1_ := am (Kept.drew HK.out)
           have n2_ := am (below_drew1 HB.out)
           clear HO_0
           clear HK
           clear HB
           have HO_0 := n0_
           have HK := n1_
           have HB := n2_
           clear n0_ n1_ n2_
           obtain ⟨Ao18,co18,eo18⟩ := Kd.R_slice HO_0.out
           (first|subst eo18|(injection eo18 with f1_ f2_ f3_;have f4_ := f1_.symm;have f5_ := f3_.symm;clear f1_ f2_ f3_;subst f4_;subst f5_))
           have p263 : 0 ≤ ((ji9) : Int) := od
           have q263 : (ji9) < (x0_2.length : Int) := od
           obtain ⟨ad263,e263,hx263_0⟩ := Kd.at_int (Kd.R_reads' HO_0.out).2.2 (ji9) p263 q263
           cases e263
           replace p263 := eq_true p263
           replace q263 := eq_true q263
           have p264 : 0 ≤ (a1 : Int) := od
           have q264 : a1 < (x0_2.length : Int) := od
           obtain ⟨ad264,e264,hx264_0⟩ := Kd.at_int (Kd.R_reads' HO_0.out).2.2 a1 p264 q264
           obtain rfl : ad263 = ad264 := (by injection e264)
           replace p264 := eq_true p264
           replace q264 := eq_true q264
           have p14 : 0 ≤ (a1 : Int) := od
           have q14 : (a1 : Int) < ((x0_2.length : Int) : Int) := od
           obtain ⟨go14,co14,eo14,gb14,gl14,cl14,HG14⟩ := Kd.R_form HO_0.out (by omega)
           (first|cases eo14|(injection eo14 with ea_ en_ ec_;(first|subst ea_|(injection ea_ with ea_;subst ea_));subst ec_;clear en_))
           have GB14 := am gb14
           have GG14 := am HG14
           clear gb14 gl14 HG14
           have HMgo14 := am (show (P0_ go14 ∨ w.heap.size ≤ go14) from (HO_0.out.1 _ rfl))
           (first|simp only [add_plain] at hx263_0|skip)
           (first|simp only [add_plain] at hx264_0|skip)
           obtain ⟨hx14_0,hf14_0⟩ := Kd.R_celln 0 HO_0.out (a1 : Int) p14 q14
           replace p14 := eq_true p14
           replace q14 := eq_true q14
           have HP19 := Kd.R_putn HO_0.out (a1 : Int) (rd x0_2 (ji9))
           rw [← Ny265.out] at HP19
           have HQ19 := am HP19
           clear HP19
           have p15 : 0 ≤ ((ji9) : Int) := od
           have q15 : ((ji9) : Int) < ((x0_2.length : Int) : Int) := od
           obtain ⟨hx15_0,hf15_0⟩ := Kd.R_celln 0 HQ19.out ((ji9) : Int) p15 q15
           replace p15 := eq_true p15
           replace q15 := eq_true q15
           have HP20 := Kd.R_putn HQ19.out ((ji9) : Int) (rd x0_2 a1)
           rw [← Ny266.out] at HP20
           have HQ20 := am HP20
           clear HP20
           refine start_ (n := 20) (S := fun w' => w'.cell? ⟨go14,((ji9)).toNat,none⟩ = some (.int .u64 (rd x0_2 (ji9))) ∧ w'.cell? ⟨go14,(a1).toNat,none⟩ = some (.int .u64 (rd x0_2 a1))) (ds := [17,19]) (bz 20 0) (by kernel_rfl) rfl rfl ⟨hx263_0,hx264_0⟩ (fun hHeld => ?_);refine with_tabW slices_heapSortOrdered_uint64.tab10 slices_heapSortOrdered_uint64.bits10 (fun HT_ HW_ => ?_)
           generalize wr.drew = w17 at HO_0 HK HB GG14 HQ19 HQ20 hf14_0 hf15_0 hx14_0 hx15_0 hx263_0 hx264_0 hHeld ⊢
           refine pk 0 33 (bz 20 1) HT_ ?_
           refine pk 1 34 (bz 20 3) HT_ ?_
           refine pk 2 35 (bz 20 7) HT_ ?_
           refine pk 3 36 (bz 20 15) HT_ ?_
           refine pk 4 37 (bz 20 31) HT_ ?_
           refine pk 5 38 (bz 20 63) HT_ ?_
           refine pk 6 39 (bz 20 127) HT_ ?_
           refine pk 7 40 (bz 20 255) HT_ ?_
           refine pk 8 41 (bz 20 511) HT_ ?_
           refine pk 9 42 (bz 20 1023) HT_ ?_
           refine pk 10 43 (bz 20 2047) HT_ ?_
           refine pk 12 45 (bz 20 6143) HT_ ?_
           refine pk 13 46 (bz 20 14335) HT_ ?_
           refine pk 14 47 (bz 20 30719) HT_ ?_
           refine tk 11 44 (bz 20 32767) HT_ HW_ hHeld ?_
           refine tk 15 48 (bz 20 65535) HT_ HW_ hHeld ?_
           refine pk 16 49 (bz 20 131071) HT_ ?_
           refine last_ (i := 17) (N := none) (bz 20 262143) rfl rfl (one_of HT_.out (by kernel_rfl)) (by decide) (fun K hK => ?_)
           refine skip_ (w1 := ?_) (by rfl) rfl ?_ ?_
           rotate_left
           ·go_simp
            rfl
           refine hK.out _ _ ?_
           clear hK K
           refine pk 18 50 (bz 20 524287) HT_ ?_
           refine last_ (i := 19) (N := none) (bz 20 1048575) rfl rfl (one_of HT_.out (by kernel_rfl)) (by decide) (fun K hK => ?_)
           refine skip_ (w1 := ?_) (by rfl) rfl ?_ ?_
           rotate_left
           ·go_simp
            rfl
           refine hK.out _ _ ?_
           clear hK K
           refine done_ (done_of HT_.out (by kernel_rfl)) ?_
           have n0_ : Aside0 (Kd.R (Kd.int .u64) 22 ((w17.setCell ⟨go14,(a1 : Int).toNat,none⟩ (.int .u64 (rd x0_2 (ji9)))).setCell ⟨go14,((ji9) : Int).toNat,none⟩ (.int .u64 (rd x0_2 a1))) w0.heap.size (fun k_ => (P0_ k_ ∨ w.heap.size ≤ k_)) (.slice (some ⟨go14,0,none⟩) x0_2.length co18) y266) := ⟨by (with_reducible repeat (first|apply Kd.R_alloc|apply Kd.R_drewN|apply Kd.R_drew));exact HQ20.out⟩
           have n1_ : Aside0 (Kept w ((w17.setCell ⟨go14,(a1 : Int).toNat,none⟩ (.int .u64 (rd x0_2 (ji9)))).setCell ⟨go14,((ji9) : Int).toNat,none⟩ (.int .u64 (rd x0_2 a1))) (fun k_ => P0_ k_)) := ⟨by repeat (first|(with_reducible first|exact HK.out|apply Kept.alloc|apply Kept.drewN|apply Kept.drew|refine Kept.setCell ?_ HMgo14.out _|refine Kept.setCell ?_ HMgo14.out _)|exact HK.out)⟩
           have n2_ : Aside0 (Below w0.heap.size w0 ((w17.setCell ⟨go14,(a1 : Int).toNat,none⟩ (.int .u64 (rd x0_2 (ji9)))).setCell ⟨go14,((ji9) : Int).toNat,none⟩ (.int .u64 (rd x0_2 a1)))) := ⟨by repeat (first|(with_reducible first|exact HB.out|apply below_alloc|apply pw_below_drewN|apply below_drew1|refine below_set ?_ GB14.out|refine below_set ?_ GB14.out)|exact HB.out)⟩
           (try clear HO_0)
           (try clear HK)
           (try clear HB)
           generalize ((w17.setCell ⟨go14,(a1 : Int).toNat,none⟩ (.int .u64 (rd x0_2 (ji9)))).setCell ⟨go14,((ji9) : Int).toNat,none⟩ (.int .u64 (rd x0_2 a1))) = w21 at n0_ n1_ n2_ ⊢
           have HO_0 := n0_
           have HK := n1_
           have HB := n2_
           clear n0_ n1_ n2_
           try go_wp2_with (first|((with_reducible refine gate_callee (f := 115) rfl ?_);refine goesL_ (some 55) rfl rfl Try.func115 (by kernel_rfl) rfl #[.slice (some ⟨go14,0,none⟩) x0_2.length co18,.int .i64 0,.int .i64 x10_2,.int .i64 a1] rfl (by (try simp only [List.map_toArray,List.map_cons,List.map_nil]);first|done|rfl|(simp only [List.length_drop,List.length_take];rfl)) ?_;(with_reducible refine (slices_siftDownOrdered_uint64.calls k2 (fun k_ => some k_ = (.slice (some ⟨go14,0,none⟩) x0_2.length co18 : Value).ownBlock) (.slice (some ⟨go14,0,none⟩) x0_2.length co18) y266 0 x10_2 a1 t267 w0 _ ?side1 ?side2 A16.out).mono ?_);(case side1 => repeat (first|(with_reducible first|exact HB.out|apply below_alloc|apply pw_below_drewN|apply below_drew1)|exact HB.out));(case side2 => exact Kd.R_tight rfl HO_0.out);rintro e w22 ⟨rfl,hy0,hb,hkp⟩;refine ⟨_,rfl,?_⟩;have n0_ := am (Kd.R_reok rfl hy0 (fun k_ e_ => HO_0.out.1 k_ e_));have n1_ := am (Kept.then_ (S := (fun k_ => P0_ k_)) (by repeat (first|(with_reducible first|exact HK.out|apply Kept.alloc|apply Kept.drewN|apply Kept.drew)|exact HK.out)) hkp (fun k_ hs_ => (fun e_ => (HO_0.out.1 k_ e_.symm)) hs_));have n2_ := am (hb);clear HO_0 HK HB;have HO_0 := n0_;have HK := n1_;have HB := n2_;clear n0_ n1_ n2_;(try clear hb);(try clear hkp);(try clear hy0)))
           go_roundg k2
           case measure => have := HK1.out;have := HK2.out;omega
           case rel => exact ⟨(t267),(wrap64 (x10_2 - 1)),(by first|rfl|(simp;done)|(simp [*];done)),H',⟨by have := HK1.out;have := HK2.out;omega⟩,⟨by (with_reducible repeat (first|apply Kd.R_alloc|apply Kd.R_drewN|apply Kd.R_drew));exact HO_0.out⟩,⟨by repeat (first|(with_reducible first|exact HK.out|apply Kept.alloc|apply Kept.drewN|apply Kept.drew)|exact HK.out)⟩,⟨bb HB⟩⟩
          ·rw [if_neg c13] at H
           exact absurd H (by simp)
         ·rw [if_neg c12] at H
          exact absurd H (by simp)
        ·rw [if_neg c11] at H
         exact absurd H (by simp)
       ·rw [if_neg c10] at H
        exact absurd H (by simp)
      ·rw [if_neg c8] at H
       have c8b0 : decide (0 ≤ x10_2) = false := decide_eq_false c8
       clear c8
       obtain rfl := Option.some.inj H
       go_wp2
       first|go_end0|((try simp only [Exit.inBlock,Exit.then]);refine bodyPost_ret (results_none rfl _ _ _) rfl ?_)
       exact ⟨by first|rfl|(simp [errW_none,errW_some] <;> rfl)|(simp [*,errW_none,errW_some] <;> rfl),by (with_reducible repeat (first|apply Kd.R_alloc|apply Kd.R_drewN|apply Kd.R_drew));exact HO_0.out,by repeat (first|(with_reducible first|exact HB.out|apply below_alloc|apply pw_below_drewN|apply below_drew1)|exact HB.out),by repeat (first|(with_reducible first|exact HK.out|apply Kept.alloc|apply Kept.drewN|apply Kept.drew)|exact HK.out)⟩
def bits_Len.f (k : Nat) (a0 : Int) : Option (Int) := (bits_Len64.f k a0).bind fun t268 => (some t268)
set_option maxHeartbeats 8000000 in
set_option maxRecDepth 100000 in
theorem bits_Len.calls (k : Nat) (a0 : Int) (r : Int) (w : World) (h : bits_Len.f k a0 = some r) :
  Calls Try.prog 103 #[.int .u64 a0] w fun e w' => e = .returned (.int .i64 r) ∧ Drawn0 w w' := by
 have H : ((bits_Len64.f k a0).bind fun t268 => (some t268)) = some r := h
 clear h
 replace H := Option.bind_eq_some_iff.mp H
 obtain ⟨t268,A20,H⟩ := H
 try dsimp only at H
 have A2 := am A20
 clear A20
 obtain rfl := Option.some.inj H
 go_enter Try.func103,Try.ntmps103
 go_wp2_with (first|((with_reducible refine gate_callee (f := 99) rfl ?_);refine goesL_ (some 7) rfl rfl Try.func99 (by kernel_rfl) rfl #[.int .u64 a0] rfl (by (try simp only [List.map_toArray,List.map_cons,List.map_nil]);first|done|rfl|(simp only [List.length_drop,List.length_take];rfl)) ?_;(with_reducible refine (bits_Len64.calls k a0 t268 _ A2.out).mono ?_);rintro e w' ⟨rfl,⟨nd,rfl⟩⟩;refine ⟨_,rfl,?_⟩))
 go_ret
 exact ⟨by first|rfl|(simp;done)|(simp [*];done),by repeat (first|exact Drawn0.refl _|apply Drawn0.step)⟩

mutual
def slices_partialInsertionSortOrdered_uint64.l0 : Nat → List Int → Int → Int → Int → Int → Option (Bool × List Int)
 | 0,_,_,_,_,_ => none
 | k + 1,x0,x1,x2,x7,x8 => if x8 < 5 then (slices_partialInsertionSortOrdered_uint64.l1 k x0 x1 x2 x7 x8) else (some (false,x0))
def slices_partialInsertionSortOrdered_uint64.j2 : Nat → List Int → Int → Int → Int → Int → Option (Bool × List Int)
 | 0,_,_,_,_,_ => none
 | k + 1,x0,x1,x2,x7,x8 => if x7 = x2 then (some (true,x0)) else (if (wrap64 (x2 - x1)) < 50 then (some (false,x0)) else (if 0 ≤ (wrap64 (x7 - 1)) then (if (wrap64 (x7 - 1)) < (x0.length : Int) then (if 0 ≤ x7 then (if x7 < (x0.length : Int) then ((some ((x0.set (x7 : Int).toNat (rd x0 (wrap64 (x7 - 1)))).set ((wrap64 (x7 - 1)) : Int).toNat (rd x0 x7) : List Int)).bind fun y279 => (if (wrap64 (x7 - x1)) ≥ 2 then (slices_partialInsertionSortOrdered_uint64.l2 k y279 x1 x2 x7 x8 (wrap64 (x7 - 1))) else (slices_partialInsertionSortOrdered_uint64.j4 k y279 x1 x2 x7 x8))) else (none)) else (none)) else (none)) else (none)))
def slices_partialInsertionSortOrdered_uint64.j4 : Nat → List Int → Int → Int → Int → Int → Option (Bool × List Int)
 | 0,_,_,_,_,_ => none
 | k + 1,x0,x1,x2,x7,x8 => if (wrap64 (x2 - x7)) ≥ 2 then (slices_partialInsertionSortOrdered_uint64.l3 k x0 x1 x2 x7 x8 (wrap64 (x7 + 1))) else (slices_partialInsertionSortOrdered_uint64.l0 k x0 x1 x2 x7 (wrap64 (x8 + 1)))
def slices_partialInsertionSortOrdered_uint64.l3 : Nat → List Int → Int → Int → Int → Int → Int → Option (Bool × List Int)
 | 0,_,_,_,_,_,_ => none
 | k + 1,x0,x1,x2,x7,x8,x10 => if x10 < x2 then (if 0 ≤ x10 then (if x10 < (x0.length : Int) then (if 0 ≤ (wrap64 (x10 - 1)) then (if (wrap64 (x10 - 1)) < (x0.length : Int) then ((cmp_Less_uint64.f (rd x0 x10) (rd x0 (wrap64 (x10 - 1)))).bind fun t289 => (if t289 = true then (slices_partialInsertionSortOrdered_uint64.l3 k ((x0.set (x10 : Int).toNat (rd x0 (wrap64 (x10 - 1)))).set ((wrap64 (x10 - 1)) : Int).toNat (rd x0 x10)) x1 x2 x7 x8 (wrap64 (x10 + 1))) else (slices_partialInsertionSortOrdered_uint64.l0 k x0 x1 x2 x7 (wrap64 (x8 + 1))))) else (none)) else (none)) else (none)) else (none)) else (slices_partialInsertionSortOrdered_uint64.l0 k x0 x1 x2 x7 (wrap64 (x8 + 1)))
def slices_partialInsertionSortOrdered_uint64.l2 : Nat → List Int → Int → Int → Int → Int → Int → Option (Bool × List Int)
 | 0,_,_,_,_,_,_ => none
 | k + 1,x0,x1,x2,x7,x8,x9 => if x9 ≥ 1 then (if 0 ≤ x9 then (if x9 < (x0.length : Int) then (if 0 ≤ (wrap64 (x9 - 1)) then (if (wrap64 (x9 - 1)) < (x0.length : Int) then ((cmp_Less_uint64.f (rd x0 x9) (rd x0 (wrap64 (x9 - 1)))).bind fun t282 => (if t282 = true then (slices_partialInsertionSortOrdered_uint64.l2 k ((x0.set (x9 : Int).toNat (rd x0 (wrap64 (x9 - 1)))).set ((wrap64 (x9 - 1)) : Int).toNat (rd x0 x9)) x1 x2 x7 x8 (wrap64 (x9 - 1))) else (slices_partialInsertionSortOrdered_uint64.j4 k x0 x1 x2 x7 x8))) else (none)) else (none)) else (none)) else (none)) else (slices_partialInsertionSortOrdered_uint64.j4 k x0 x1 x2 x7 x8)
def slices_partialInsertionSortOrdered_uint64.l1 : Nat → List Int → Int → Int → Int → Int → Option (Bool × List Int)
 | 0,_,_,_,_,_ => none
 | k + 1,x0,x1,x2,x7,x8 => if x7 < x2 then (if 0 ≤ x7 then (if x7 < (x0.length : Int) then (if 0 ≤ (wrap64 (x7 - 1)) then (if (wrap64 (x7 - 1)) < (x0.length : Int) then ((cmp_Less_uint64.f (rd x0 x7) (rd x0 (wrap64 (x7 - 1)))).bind fun t275 => (if t275 = true then (slices_partialInsertionSortOrdered_uint64.j2 k x0 x1 x2 x7 x8) else (slices_partialInsertionSortOrdered_uint64.l1 k x0 x1 x2 (wrap64 (x7 + 1)) x8))) else (none)) else (none)) else (none)) else (none)) else (slices_partialInsertionSortOrdered_uint64.j2 k x0 x1 x2 x7 x8)
end
def slices_partialInsertionSortOrdered_uint64.f (k : Nat) (l0 : List Int) (a1 : Int) (a2 : Int) : Option (Bool × List Int) := slices_partialInsertionSortOrdered_uint64.l0 k l0 a1 a2 (wrap64 (a1 + 1)) 0
def slices_partialInsertionSortOrdered_uint64.T5 : Bool × List (List Nat × List Nat) := (true,[([],[]),([],[]),([0,1],[0,1]),([2],[2]),([3],[3]),([3],[3]),([4,5,3],[3,4,5]),([6,3],[3,6]),([3],[3]),([3],[3]),([9,3],[3,9]),([8,10,3],[3,8,10]),([11,3],[3,11]),([7,12,3,3],[3,7,12]),([13,3],[3,13]),([3,14],[3,14])])
def slices_partialInsertionSortOrdered_uint64.B5 : List Nat := [0,0,3,7,15,15,63,127,15,15,527,1807,3855,8191,16383,32767]
theorem slices_partialInsertionSortOrdered_uint64.tab5 : rtab .any (opsOf Try.f110 5) = slices_partialInsertionSortOrdered_uint64.T5 := by kernel_rfl
theorem slices_partialInsertionSortOrdered_uint64.bits5 : waitsOk slices_partialInsertionSortOrdered_uint64.T5.2 slices_partialInsertionSortOrdered_uint64.B5 = true := by kernel_rfl
def slices_partialInsertionSortOrdered_uint64.T11 : Bool × List (List Nat × List Nat) := (true,[([],[]),([],[]),([],[]),([],[]),([3],[3]),([],[]),([],[]),([6],[6]),([5,7],[5,7]),([8],[8]),([],[]),([],[]),([10,11],[10,11]),([12],[12]),([0,1,0,1,5,6,7,8,9,13],[0,1]),([14,9,0,1,5,6,7,8,9,13],[9,14]),([2,4,0,1,2,3,4,5,6,7,8,9,10,11,12,13,14,15],[2,4]),([16,13,15,0,1,2,3,4,5,6,7,8,9,10,11,12,13,14,15],[13,16])])
def slices_partialInsertionSortOrdered_uint64.B11 : List Nat := [0,0,0,0,8,0,0,64,224,480,0,0,3072,7168,16355,32739,65535,131071]
theorem slices_partialInsertionSortOrdered_uint64.tab11 : rtab .any (opsOf Try.f110 11) = slices_partialInsertionSortOrdered_uint64.T11 := by kernel_rfl
theorem slices_partialInsertionSortOrdered_uint64.bits11 : waitsOk slices_partialInsertionSortOrdered_uint64.T11.2 slices_partialInsertionSortOrdered_uint64.B11 = true := by kernel_rfl
def slices_partialInsertionSortOrdered_uint64.T16 : Bool × List (List Nat × List Nat) := (true,[([],[]),([],[]),([0,1],[0,1]),([2],[2]),([],[]),([],[]),([5],[5]),([4,6],[4,6]),([7],[7]),([3,8],[3,8]),([9],[9])])
def slices_partialInsertionSortOrdered_uint64.B16 : List Nat := [0,0,3,7,0,0,32,112,240,511,1023]
theorem slices_partialInsertionSortOrdered_uint64.tab16 : rtab .any (opsOf Try.f110 16) = slices_partialInsertionSortOrdered_uint64.T16 := by kernel_rfl
theorem slices_partialInsertionSortOrdered_uint64.bits16 : waitsOk slices_partialInsertionSortOrdered_uint64.T16.2 slices_partialInsertionSortOrdered_uint64.B16 = true := by kernel_rfl
def slices_partialInsertionSortOrdered_uint64.T17 : Bool × List (List Nat × List Nat) := (true,[([],[]),([],[]),([],[]),([],[]),([3],[3]),([],[]),([],[]),([6],[6]),([5,7],[5,7]),([8],[8]),([],[]),([],[]),([10,11],[10,11]),([12],[12]),([0,1,0,1,5,6,7,8,9,13],[0,1]),([14,9,0,1,5,6,7,8,9,13],[9,14]),([2,4,0,1,2,3,4,5,6,7,8,9,10,11,12,13,14,15],[2,4]),([16,13,15,0,1,2,3,4,5,6,7,8,9,10,11,12,13,14,15],[13,16])])
def slices_partialInsertionSortOrdered_uint64.B17 : List Nat := [0,0,0,0,8,0,0,64,224,480,0,0,3072,7168,16355,32739,65535,131071]
theorem slices_partialInsertionSortOrdered_uint64.tab17 : rtab .any (opsOf Try.f110 17) = slices_partialInsertionSortOrdered_uint64.T17 := by kernel_rfl
theorem slices_partialInsertionSortOrdered_uint64.bits17 : waitsOk slices_partialInsertionSortOrdered_uint64.T17.2 slices_partialInsertionSortOrdered_uint64.B17 = true := by kernel_rfl
def slices_partialInsertionSortOrdered_uint64.T22 : Bool × List (List Nat × List Nat) := (true,[([],[]),([],[]),([0,1],[0,1]),([2],[2]),([],[]),([],[]),([5],[5]),([4,6],[4,6]),([7],[7]),([3,8],[3,8]),([9],[9])])
def slices_partialInsertionSortOrdered_uint64.B22 : List Nat := [0,0,3,7,0,0,32,112,240,511,1023]
theorem slices_partialInsertionSortOrdered_uint64.tab22 : rtab .any (opsOf Try.f110 22) = slices_partialInsertionSortOrdered_uint64.T22 := by kernel_rfl
theorem slices_partialInsertionSortOrdered_uint64.bits22 : waitsOk slices_partialInsertionSortOrdered_uint64.T22.2 slices_partialInsertionSortOrdered_uint64.B22 = true := by kernel_rfl
def slices_partialInsertionSortOrdered_uint64.T23 : Bool × List (List Nat × List Nat) := (true,[([],[]),([],[]),([],[]),([],[]),([3],[3]),([],[]),([],[]),([6],[6]),([5,7],[5,7]),([8],[8]),([],[]),([],[]),([10,11],[10,11]),([12],[12]),([0,1,0,1,5,6,7,8,9,13],[0,1]),([14,9,0,1,5,6,7,8,9,13],[9,14]),([2,4,0,1,2,3,4,5,6,7,8,9,10,11,12,13,14,15],[2,4]),([16,13,15,0,1,2,3,4,5,6,7,8,9,10,11,12,13,14,15],[13,16])])
def slices_partialInsertionSortOrdered_uint64.B23 : List Nat := [0,0,0,0,8,0,0,64,224,480,0,0,3072,7168,16355,32739,65535,131071]
theorem slices_partialInsertionSortOrdered_uint64.tab23 : rtab .any (opsOf Try.f110 23) = slices_partialInsertionSortOrdered_uint64.T23 := by kernel_rfl
theorem slices_partialInsertionSortOrdered_uint64.bits23 : waitsOk slices_partialInsertionSortOrdered_uint64.T23.2 slices_partialInsertionSortOrdered_uint64.B23 = true := by kernel_rfl
set_option maxHeartbeats 8000000 in
set_option maxRecDepth 100000 in
theorem slices_partialInsertionSortOrdered_uint64.calls (k : Nat) (P0_ : Nat → Prop) (u9000_ : Value) (l0 : List Int) (a1 : Int) (a2 : Int) (r1 : Bool) (r2 : List Int) (w0 w : World) (hB : Below w0.heap.size w0 w) (ho0 : Kd.R (Kd.int .u64) 22 w w0.heap.size P0_ u9000_ l0) (h : slices_partialInsertionSortOrdered_uint64.f k l0 a1 a2 = some (r1,r2)) :
  Calls Try.prog 110 #[u9000_,.int .i64 a1,.int .i64 a2] w fun e w' => e = .returned (.bool r1) ∧ Kd.R (Kd.int .u64) 22 w' w0.heap.size (fun k_ => (P0_ k_ ∨ w.heap.size ≤ k_)) u9000_ r2 ∧ Below w0.heap.size w0 w' ∧ Kept w w' (fun k_ => P0_ k_) := by
 have HO0 := am (show Kd.R (Kd.int .u64) 22 w w0.heap.size (fun k_ => (P0_ k_ ∨ w.heap.size ≤ k_)) u9000_ l0 from Kd.R_mono ho0 (fun k_ hk => (.inl hk)))
 have HK := am (Kept.refl w (fun k_ => P0_ k_))
 have HW0 := am hB.size
 have HB := am hB
 clear hB
 have H : (slices_partialInsertionSortOrdered_uint64.l0 k l0 a1 a2 (wrap64 (a1 + 1)) 0) = some (r1,r2) := h
 clear h
 have H' := am H
 clear H
 go_enter Try.func110,Try.ntmps110
 go_wp2
 go_loopg [7,8] k (fun kq v7 v8 w' => ∃ (x0_1 : List Int) (x7_1 : Int) (x8_1 : Int),v7 = .int .i64 x7_1 ∧ v8 = .int .i64 x8_1 ∧ Aside0 (slices_partialInsertionSortOrdered_uint64.l0 kq x0_1 a1 a2 x7_1 x8_1 = some (r1,r2)) ∧ Aside0 (kq ≤ k) ∧ Aside0 (Kd.R (Kd.int .u64) 22 w' w0.heap.size (fun k_ => (P0_ k_ ∨ w.heap.size ≤ k_)) u9000_ x0_1) ∧ Aside0 (Kept w w' (fun k_ => P0_ k_)) ∧ Aside0 (Below w0.heap.size w0 w'))
 case atStart => exact ⟨(l0),(wrap64 (a1 + 1)),(0),(by first|rfl|(simp;done)|(simp [*];done)),(by first|rfl|(simp;done)|(simp [*];done)),H',⟨Nat.le_refl _⟩,⟨by (with_reducible repeat (first|apply Kd.R_alloc|apply Kd.R_drewN|apply Kd.R_drew));exact HO0.out⟩,⟨by repeat (first|(with_reducible first|exact HK.out|apply Kept.alloc|apply Kept.drewN|apply Kept.drew)|exact HK.out)⟩,⟨bb HB⟩⟩
 case round =>
  clear H'
  try clear c1
  try clear p2
  obtain ⟨x0_1,x7_1,x8_1,rfl,rfl,HA,HK1,HO_0,HK,HB⟩ := hrel
  cases gk with
  | zero => exact absurd HA.out (by simp [slices_partialInsertionSortOrdered_uint64.l0])
  | succ k1 =>
   have H := HA.out
   clear HA
   simp only [slices_partialInsertionSortOrdered_uint64.l0] at H
   by_cases c4 : x8_1 < 5
   ·rw [if_pos c4] at H
    have c4b0 : decide (x8_1 < 5) = true := decide_eq_true c4
    clear c4
    have HC5 := am H
    clear H
    go_upto_block 2 with (fail)
    go_cut [7] (fun v7 wc => ∃ (kq : Nat) (x7_4 : Int),v7 = .int .i64 x7_4 ∧ Aside0 (slices_partialInsertionSortOrdered_uint64.j2 kq x0_1 a1 a2 x7_4 x8_1 = some (r1,r2)) ∧ Aside0 (kq ≤ k1) ∧ Aside0 (Kd.R (Kd.int .u64) 22 wc w0.heap.size (fun k_ => (P0_ k_ ∨ w.heap.size ≤ k_)) u9000_ x0_1) ∧ Aside0 (Kept w wc (fun k_ => P0_ k_)) ∧ Aside0 (Below w0.heap.size w0 wc))
    case first =>
     have H := HC5.out
     clear HC5
     have H' := am H
     clear H
     go_wp2
     go_loopg [7] k1 (fun kq v7 w' => ∃ (x7_2 : Int),v7 = .int .i64 x7_2 ∧ Aside0 (slices_partialInsertionSortOrdered_uint64.l1 kq x0_1 a1 a2 x7_2 x8_1 = some (r1,r2)) ∧ Aside0 (kq ≤ k1) ∧ Aside0 (Kd.R (Kd.int .u64) 22 w' w0.heap.size (fun k_ => (P0_ k_ ∨ w.heap.size ≤ k_)) u9000_ x0_1) ∧ Aside0 (Kept w w' (fun k_ => P0_ k_)) ∧ Aside0 (Below w0.heap.size w0 w'))
     case atStart => exact ⟨(x7_1),(by first|rfl|(simp;done)|(simp [*];done)),H',⟨Nat.le_refl _⟩,⟨by (with_reducible repeat (first|apply Kd.R_alloc|apply Kd.R_drewN|apply Kd.R_drew));exact HO_0.out⟩,⟨by repeat (first|(with_reducible first|exact HK.out|apply Kept.alloc|apply Kept.drewN|apply Kept.drew)|exact HK.out)⟩,⟨bb HB⟩⟩
     case round =>
      clear H'
      try clear c1
      try clear p2
      try clear c4
      try clear c4b0
      try clear p2
      obtain ⟨x7_2,rfl,HA,HK2,HO_0,HK,HB⟩ := hrel
      cases gk with
      | zero => exact absurd HA.out (by simp [slices_partialInsertionSortOrdered_uint64.l1])
      | succ k2 =>
       have H := HA.out
       clear HA
       simp only [slices_partialInsertionSortOrdered_uint64.l1] at H
       by_cases c6 : x7_2 < a2
       ·rw [if_pos c6] at H
        have c6b0 : decide (x7_2 < a2) = true := decide_eq_true c6
        clear c6
        (first|rw [c6b0]|(simp only [i64_w,i32_w];rw [c6b0])|skip)
        by_cases c7 : 0 ≤ x7_2
        ·rw [if_pos c7] at H
         have c7b0 : decide (0 ≤ x7_2) = true := decide_eq_true c7
         clear c7
         by_cases c8 : x7_2 < (x0_1.length : Int)
         ·rw [if_pos c8] at H
          have c8b0 : decide (x7_2 < (x0_1.length : Int)) = true := decide_eq_true c8
          clear c8
          obtain ⟨ji9,hji9⟩ : ∃ j_ : Int,(wrap64 (x7_2 - 1)) = j_ := ⟨_,rfl⟩
          first|rw [hji9] at H|simp only [hji9] at H
          have hji9w : (IntKind.i64.wrap (x7_2 - 1)) = ji9 := (i64_w _).trans hji9
          by_cases c10 : 0 ≤ (ji9)
          ·rw [if_pos c10] at H
           have c10b0 : decide (0 ≤ (ji9)) = true := decide_eq_true c10
           clear c10
           by_cases c11 : (ji9) < (x0_1.length : Int)
           ·rw [if_pos c11] at H
            have c11b0 : decide ((ji9) < (x0_1.length : Int)) = true := decide_eq_true c11
            clear c11
            replace H := Option.bind_eq_some_iff.mp H
            obtain ⟨t275,A120,H⟩ := H
            try dsimp only at H
            have A12 := am A120
            clear A120
            by_cases c13 : t275 = true
            ·subst c13
             rw [if_pos rfl] at H
             have H' := am H
             clear H
             try go_wp2
             have n0_ := am (Kd.R_drew HO_0.out)
             have n1_ := am (Kept.drew HK.out)
             have n2_ := am (below_drew1 HB.out)
             clear HO_0
             clear HK
             clear HB
             have HO_0 := n0_
             have HK := n1_
             have HB := n2_
             clear n0_ n1_ n2_
             obtain ⟨Ao15,co15,eo15⟩ := Kd.R_slice HO_0.out
             (first|subst eo15|(injection eo15 with f1_ f2_ f3_;have f4_ := f1_.symm;have f5_ := f3_.symm;clear f1_ f2_ f3_;subst f4_;subst f5_))
             have p273 : 0 ≤ (x7_2 : Int) := od
             have q273 : x7_2 < (x0_1.length : Int) := od
             obtain ⟨ad273,e273,hx273_0⟩ := Kd.at_int (Kd.R_reads' HO_0.out).2.2 x7_2 p273 q273
             cases e273
             replace p273 := eq_true p273
             replace q273 := eq_true q273
             have p274 : 0 ≤ ((ji9) : Int) := od
             have q274 : (ji9) < (x0_1.length : Int) := od
             obtain ⟨ad274,e274,hx274_0⟩ := Kd.at_int (Kd.R_reads' HO_0.out).2.2 (ji9) p274 q274
             obtain rfl : ad273 = ad274 := (by injection e274)
             replace p274 := eq_true p274
             replace q274 := eq_true q274
             refine start_ (n := 16) (S := fun w' => w'.cell? (ad273.add (x7_2).toNat) = some (.int .u64 (rd x0_1 x7_2)) ∧ w'.cell? (ad273.add ((ji9)).toNat) = some (.int .u64 (rd x0_1 (ji9)))) (ds := []) (bz 16 0) (by kernel_rfl) rfl rfl ⟨hx273_0,hx274_0⟩ (fun hHeld => ?_);refine with_tabW slices_partialInsertionSortOrdered_uint64.tab5 slices_partialInsertionSortOrdered_uint64.bits5 (fun HT_ HW_ => ?_)
             generalize wr.drew = w14 at HO_0 HK HB hx273_0 hx274_0 hHeld ⊢
             refine pk 0 17 (bz 16 1) HT_ ?_
             refine pk 1 18 (bz 16 3) HT_ ?_
             refine pk 2 19 (bz 16 7) HT_ ?_
             refine pk 3 20 (bz 16 15) HT_ ?_
             refine pk 4 21 (bz 16 31) HT_ ?_
             refine pk 5 22 (bz 16 63) HT_ ?_
             refine pk 6 23 (bz 16 127) HT_ ?_
             refine pk 8 25 (bz 16 383) HT_ ?_
             refine pk 9 26 (bz 16 895) HT_ ?_
             refine pk 10 27 (bz 16 1919) HT_ ?_
             refine pk 11 28 (bz 16 3967) HT_ ?_
             refine tk 7 24 (bz 16 4095) HT_ HW_ hHeld ?_
             refine tk 12 29 (bz 16 8191) HT_ HW_ hHeld ?_
             refine on 13 30 (bz 16 16383) HT_ (fun K hK => ?_)
             refine goes_ Try.func111 (by kernel_rfl) rfl #[.int .u64 (rd x0_1 x7_2),.int .u64 (rd x0_1 (ji9))] (by rfl) rfl rfl (by (try simp only [List.map_toArray,List.map_cons,List.map_nil]);first|done|(simp only [hji9];rfl)|rfl|(simp only [List.length_drop,List.length_take];rfl)) ?_
             with_reducible refine (cmp_Less_uint64.calls (rd x0_1 x7_2) (rd x0_1 (ji9)) true _ A12.out).mono ?_
             rintro e w' ⟨rfl,⟨nd,rfl⟩⟩
             refine ⟨_,rfl,?_⟩
             refine hK.out _ _ ⟨hHeld.1,hHeld.2⟩ (fun hHeld => ?_)
             clear hK K
             refine nm 30 ?_
             refine pk 14 31 (bz 16 32767) HT_ ?_
             refine pk 15 32 (bz 16 65535) HT_ ?_
             refine done_ (done_of HT_.out (by kernel_rfl)) ?_
             try go_wp2
             go_meet
             case rel => exact ⟨_,(x7_2),(by first|rfl|(simp;done)|(simp [*];done)),H',⟨by have := HK1.out;have := HK2.out;first|omega|exact Nat.le_refl _⟩,⟨by (with_reducible repeat (first|apply Kd.R_alloc|apply Kd.R_drewN|apply Kd.R_drew));exact HO_0.out⟩,⟨by repeat (first|(with_reducible first|exact HK.out|apply Kept.alloc|apply Kept.drewN|apply Kept.drew)|exact HK.out)⟩,⟨bb HB⟩⟩
            ·replace c13 := Bool.eq_false_iff.mpr c13
             subst c13
             rw [if_neg (show ¬ (false = true) by decide)] at H
             have H' := am H
             clear H
             try go_wp2
             have n0_ := am (Kd.R_drew HO_0.out)
             have n1_ := am (Kept.drew HK.out)
             have n2_ := am (below_drew1 HB.out)
             clear HO_0
             clear HK
             clear HB
             have HO_0 := n0_
             have HK := n1_
             have HB := n2_
             clear n0_ n1_ n2_
             obtain ⟨Ao17,co17,eo17⟩ := Kd.R_slice HO_0.out
             (first|subst eo17|(injection eo17 with f1_ f2_ f3_;have f4_ := f1_.symm;have f5_ := f3_.symm;clear f1_ f2_ f3_;subst f4_;subst f5_))
             have p273 : 0 ≤ (x7_2 : Int) := od
             have q273 : x7_2 < (x0_1.length : Int) := od
             obtain ⟨ad273,e273,hx273_0⟩ := Kd.at_int (Kd.R_reads' HO_0.out).2.2 x7_2 p273 q273
             cases e273
             replace p273 := eq_true p273
             replace q273 := eq_true q273
             have p274 : 0 ≤ ((ji9) : Int) := od
             have q274 : (ji9) < (x0_1.length : Int) := od
             obtain ⟨ad274,e274,hx274_0⟩ := Kd.at_int (Kd.R_reads' HO_0.out).2.2 (ji9) p274 q274
             obtain rfl : ad273 = ad274 := (by injection e274)
             replace p274 := eq_true p274
             replace q274 := eq_true q274
             refine start_ (n := 16) (S := fun w' => w'.cell? (ad273.add (x7_2).toNat) = some (.int .u64 (rd x0_1 x7_2)) ∧ w'.cell? (ad273.add ((ji9)).toNat) = some (.int .u64 (rd x0_1 (ji9)))) (ds := []) (bz 16 0) (by kernel_rfl) rfl rfl ⟨hx273_0,hx274_0⟩ (fun hHeld => ?_);refine with_tabW slices_partialInsertionSortOrdered_uint64.tab5 slices_partialInsertionSortOrdered_uint64.bits5 (fun HT_ HW_ => ?_)
             generalize wr.drew = w16 at HO_0 HK HB hx273_0 hx274_0 hHeld ⊢
             refine pk 0 17 (bz 16 1) HT_ ?_
             refine pk 1 18 (bz 16 3) HT_ ?_
             refine pk 2 19 (bz 16 7) HT_ ?_
             refine pk 3 20 (bz 16 15) HT_ ?_
             refine pk 4 21 (bz 16 31) HT_ ?_
             refine pk 5 22 (bz 16 63) HT_ ?_
             refine pk 6 23 (bz 16 127) HT_ ?_
             refine pk 8 25 (bz 16 383) HT_ ?_
             refine pk 9 26 (bz 16 895) HT_ ?_
             refine pk 10 27 (bz 16 1919) HT_ ?_
             refine pk 11 28 (bz 16 3967) HT_ ?_
             refine tk 7 24 (bz 16 4095) HT_ HW_ hHeld ?_
             refine tk 12 29 (bz 16 8191) HT_ HW_ hHeld ?_
             refine on 13 30 (bz 16 16383) HT_ (fun K hK => ?_)
             refine goes_ Try.func111 (by kernel_rfl) rfl #[.int .u64 (rd x0_1 x7_2),.int .u64 (rd x0_1 (ji9))] (by rfl) rfl rfl (by (try simp only [List.map_toArray,List.map_cons,List.map_nil]);first|done|(simp only [hji9];rfl)|rfl|(simp only [List.length_drop,List.length_take];rfl)) ?_
             with_reducible refine (cmp_Less_uint64.calls (rd x0_1 x7_2) (rd x0_1 (ji9)) false _ A12.out).mono ?_
             rintro e w' ⟨rfl,⟨nd,rfl⟩⟩
             refine ⟨_,rfl,?_⟩
             refine hK.out _ _ ⟨hHeld.1,hHeld.2⟩ (fun hHeld => ?_)
             clear hK K
             refine nm 30 ?_
             refine pk 14 31 (bz 16 32767) HT_ ?_
             refine pk 15 32 (bz 16 65535) HT_ ?_
             refine done_ (done_of HT_.out (by kernel_rfl)) ?_
             try go_wp2
             go_roundg k2
             case measure => have := HK1.out;have := HK2.out;omega
             case rel => exact ⟨(wrap64 (x7_2 + 1)),(by first|rfl|(simp;done)|(simp [*];done)),H',⟨by have := HK1.out;have := HK2.out;omega⟩,⟨by (with_reducible repeat (first|apply Kd.R_alloc|apply Kd.R_drewN|apply Kd.R_drew));exact HO_0.out⟩,⟨by repeat (first|(with_reducible first|exact HK.out|apply Kept.alloc|apply Kept.drewN|apply Kept.drew)|exact HK.out)⟩,⟨bb HB⟩⟩
           ·rw [if_neg c11] at H
            exact absurd H (by simp)
          ·rw [if_neg c10] at H
           exact absurd H (by simp)
         ·rw [if_neg c8] at H
          exact absurd H (by simp)
        ·rw [if_neg c7] at H
         exact absurd H (by simp)
       ·rw [if_neg c6] at H
        have c6b0 : decide (x7_2 < a2) = false := decide_eq_false c6
        clear c6
        (first|rw [c6b0]|(simp only [i64_w,i32_w];rw [c6b0])|skip)
        have H' := am H
        clear H
        try go_wp2
        have n0_ := am (Kd.R_drew HO_0.out)
        have n1_ := am (Kept.drew HK.out)
        have n2_ := am (below_drew1 HB.out)
        clear HO_0
        clear HK
        clear HB
        have HO_0 := n0_
        have HK := n1_
        have HB := n2_
        clear n0_ n1_ n2_
        refine start_ (n := 16) (S := fun w' => True) (ds := []) (bz 16 0) (by kernel_rfl) rfl rfl trivial (fun hHeld => ?_);refine with_tabW slices_partialInsertionSortOrdered_uint64.tab5 slices_partialInsertionSortOrdered_uint64.bits5 (fun HT_ HW_ => ?_)
        generalize wr.drew = w18 at HO_0 HK HB hHeld ⊢
        refine pk 0 17 (bz 16 1) HT_ ?_
        refine pk 1 18 (bz 16 3) HT_ ?_
        refine pk 2 19 (bz 16 7) HT_ ?_
        refine pk 3 20 (bz 16 15) HT_ ?_
        refine pz 4 21 (bz 16 31) HT_ ?_
        refine pz 5 22 (bz 16 63) HT_ ?_
        refine pz 6 23 (bz 16 127) HT_ ?_
        refine pz 7 24 (bz 16 255) HT_ ?_
        refine pz 8 25 (bz 16 511) HT_ ?_
        refine pz 9 26 (bz 16 1023) HT_ ?_
        refine pz 10 27 (bz 16 2047) HT_ ?_
        refine pz 11 28 (bz 16 4095) HT_ ?_
        refine pz 12 29 (bz 16 8191) HT_ ?_
        refine pz 13 30 (bz 16 16383) HT_ ?_
        refine pz 14 31 (bz 16 32767) HT_ ?_
        refine pk 15 32 (bz 16 65535) HT_ ?_
        refine done_ (done_of HT_.out (by kernel_rfl)) ?_
        try go_wp2
        go_meet
        case rel => exact ⟨_,(x7_2),(by first|rfl|(simp;done)|(simp [*];done)),H',⟨by have := HK1.out;have := HK2.out;first|omega|exact Nat.le_refl _⟩,⟨by (with_reducible repeat (first|apply Kd.R_alloc|apply Kd.R_drewN|apply Kd.R_drew));exact HO_0.out⟩,⟨by repeat (first|(with_reducible first|exact HK.out|apply Kept.alloc|apply Kept.drewN|apply Kept.drew)|exact HK.out)⟩,⟨bb HB⟩⟩
    case rest =>
     clear HC5
     try clear c1
     try clear p2
     try clear q2
     try clear hx2
     try clear c4
     try clear c4b0
     try clear c6
     try clear c6b0
     try clear p6
     try clear c7
     try clear c7b0
     try clear c8
     try clear c8b0
     try clear c10
     try clear c10b0
     try clear c11
     try clear c11b0
     try clear c13
     try clear hx273_0
     try clear hx274_0
     try clear p2
     try clear p273
     try clear p274
     try clear q273
     try clear q274
     obtain ⟨kq,x7_4,rfl,HA,HJ4,HO_0,HK,HB⟩ := hcut
     cases kq with
     | zero => exact absurd HA.out (by simp [slices_partialInsertionSortOrdered_uint64.j2])
     | succ kj4 =>
      have H := HA.out
      clear HA
      simp only [slices_partialInsertionSortOrdered_uint64.j2] at H
      by_cases c19 : x7_4 = a2
      ·rw [if_pos c19] at H
       have c19b0 : (x7_4 == a2) = true := beq_iff_eq.mpr c19
       have c19b1 : (x7_4 != a2) = false := bne_eq_false_iff_eq.mpr c19
       clear c19
       simp only [Option.some.injEq,Prod.mk.injEq] at H
       obtain ⟨rfl,rfl⟩ := H
       go_wp2
       go_ret
       exact ⟨by first|rfl|(simp [errW_none,errW_some] <;> rfl)|(simp [*,errW_none,errW_some] <;> rfl),by (with_reducible repeat (first|apply Kd.R_alloc|apply Kd.R_drewN|apply Kd.R_drew));exact HO_0.out,by repeat (first|(with_reducible first|exact HB.out|apply below_alloc|apply pw_below_drewN|apply below_drew1)|exact HB.out),by repeat (first|(with_reducible first|exact HK.out|apply Kept.alloc|apply Kept.drewN|apply Kept.drew)|exact HK.out)⟩
      ·rw [if_neg c19] at H
       have c19b0 : (x7_4 == a2) = false := beq_eq_false_iff_ne.mpr c19
       have c19b1 : (x7_4 != a2) = true := bne_iff_ne.mpr c19
       by_cases c20 : (wrap64 (a2 - a1)) < 50
       ·rw [if_pos c20] at H
        have c20b0 : decide ((wrap64 (a2 - a1)) < 50) = true := decide_eq_true c20
        clear c20
        simp only [Option.some.injEq,Prod.mk.injEq] at H
        obtain ⟨rfl,rfl⟩ := H
        go_wp2
        go_ret
        exact ⟨by first|rfl|(simp [errW_none,errW_some] <;> rfl)|(simp [*,errW_none,errW_some] <;> rfl),by (with_reducible repeat (first|apply Kd.R_alloc|apply Kd.R_drewN|apply Kd.R_drew));exact HO_0.out,by repeat (first|(with_reducible first|exact HB.out|apply below_alloc|apply pw_below_drewN|apply below_drew1)|exact HB.out),by repeat (first|(with_reducible first|exact HK.out|apply Kept.alloc|apply Kept.drewN|apply Kept.drew)|exact HK.out)⟩
       ·rw [if_neg c20] at H
        have c20b0 : decide ((wrap64 (a2 - a1)) < 50) = false := decide_eq_false c20
        clear c20
        obtain ⟨ji21,hji21⟩ : ∃ j_ : Int,(wrap64 (x7_4 - 1)) = j_ := ⟨_,rfl⟩
        first|rw [hji21] at H|simp only [hji21] at H
        have hji21w : (IntKind.i64.wrap (x7_4 - 1)) = ji21 := (i64_w _).trans hji21
        by_cases c22 : 0 ≤ (ji21)
        ·rw [if_pos c22] at H
         have c22b0 : decide (0 ≤ (ji21)) = true := decide_eq_true c22
         clear c22
         by_cases c23 : (ji21) < (x0_1.length : Int)
         ·rw [if_pos c23] at H
          have c23b0 : decide ((ji21) < (x0_1.length : Int)) = true := decide_eq_true c23
          clear c23
          by_cases c24 : 0 ≤ x7_4
          ·rw [if_pos c24] at H
           have c24b0 : decide (0 ≤ x7_4) = true := decide_eq_true c24
           clear c24
           by_cases c25 : x7_4 < (x0_1.length : Int)
           ·rw [if_pos c25] at H
            have c25b0 : decide (x7_4 < (x0_1.length : Int)) = true := decide_eq_true c25
            clear c25
            obtain ⟨y278,hy278⟩ : ∃ y_ : List Int,y_ = (x0_1.set (x7_4 : Int).toNat (rd x0_1 (ji21))) := ⟨_,rfl⟩
            replace H : ((some (y278.set ((ji21) : Int).toNat (rd x0_1 x7_4) : List Int)).bind fun y279 => (if (wrap64 (x7_4 - a1)) ≥ 2 then (slices_partialInsertionSortOrdered_uint64.l2 kj4 y279 a1 a2 x7_4 x8_1 ji21) else (slices_partialInsertionSortOrdered_uint64.j4 kj4 y279 a1 a2 x7_4 x8_1))) = some (r1,r2) := by first|(rw [hy278];with_reducible exact H)|(have H2_ := (Option.bind_some _ _).symm.trans H;rw [hy278];with_reducible exact H2_)|(have H2_ := (Option.bind_some _ _).symm.trans H;with_reducible exact H2_)|with_reducible exact H|(rw [hy278];exact H)|exact H
            have Ny278 := am hy278
            clear hy278
            obtain ⟨y279,hy279⟩ : ∃ y_ : List Int,y_ = (y278.set ((ji21) : Int).toNat (rd x0_1 x7_4)) := ⟨_,rfl⟩
            replace H : (if (wrap64 (x7_4 - a1)) ≥ 2 then (slices_partialInsertionSortOrdered_uint64.l2 kj4 y279 a1 a2 x7_4 x8_1 ji21) else (slices_partialInsertionSortOrdered_uint64.j4 kj4 y279 a1 a2 x7_4 x8_1)) = some (r1,r2) := by first|(rw [hy279];with_reducible exact H)|(have H2_ := (Option.bind_some _ _).symm.trans H;rw [hy279];with_reducible exact H2_)|(have H2_ := (Option.bind_some _ _).symm.trans H;with_reducible exact H2_)|with_reducible exact H|(rw [hy279];exact H)|exact H
            have Ny279 := am hy279
            clear hy279
            have HC28 := am H
            clear H
            try go_wp2
            have n0_ := am (Kd.R_drew HO_0.out)
            have n1_ := am (Kept.drew HK.out)
            have n2_ := am (below_drew1 HB.out)
            clear HO_0
            clear HK
            clear HB
            have HO_0 := n0_
            have HK := n1_
            have HB := n2_
            clear n0_ n1_ n2_
            obtain ⟨Ao30,co30,eo30⟩ := Kd.R_slice HO_0.out
            (first|subst eo30|(injection eo30 with f1_ f2_ f3_;have f4_ := f1_.symm;have f5_ := f3_.symm;clear f1_ f2_ f3_;subst f4_;subst f5_))
            have p276 : 0 ≤ ((ji21) : Int) := od
            have q276 : (ji21) < (x0_1.length : Int) := od
            obtain ⟨ad276,e276,hx276_0⟩ := Kd.at_int (Kd.R_reads' HO_0.out).2.2 (ji21) p276 q276
            cases e276
            replace p276 := eq_true p276
            replace q276 := eq_true q276
            have p277 : 0 ≤ (x7_4 : Int) := od
            have q277 : x7_4 < (x0_1.length : Int) := od
            obtain ⟨ad277,e277,hx277_0⟩ := Kd.at_int (Kd.R_reads' HO_0.out).2.2 x7_4 p277 q277
            obtain rfl : ad276 = ad277 := (by injection e277)
            replace p277 := eq_true p277
            replace q277 := eq_true q277
            have p26 : 0 ≤ (x7_4 : Int) := od
            have q26 : (x7_4 : Int) < ((x0_1.length : Int) : Int) := od
            obtain ⟨go26,co26,eo26,gb26,gl26,cl26,HG26⟩ := Kd.R_form HO_0.out (by omega)
            (first|cases eo26|(injection eo26 with ea_ en_ ec_;(first|subst ea_|(injection ea_ with ea_;subst ea_));subst ec_;clear en_))
            have GB26 := am gb26
            have GG26 := am HG26
            clear gb26 gl26 HG26
            have HMgo26 := am (show (P0_ go26 ∨ w.heap.size ≤ go26) from (HO_0.out.1 _ rfl))
            (first|simp only [add_plain] at hx276_0|skip)
            (first|simp only [add_plain] at hx277_0|skip)
            obtain ⟨hx26_0,hf26_0⟩ := Kd.R_celln 0 HO_0.out (x7_4 : Int) p26 q26
            replace p26 := eq_true p26
            replace q26 := eq_true q26
            have HP31 := Kd.R_putn HO_0.out (x7_4 : Int) (rd x0_1 (ji21))
            rw [← Ny278.out] at HP31
            have HQ31 := am HP31
            clear HP31
            have p27 : 0 ≤ ((ji21) : Int) := od
            have q27 : ((ji21) : Int) < ((x0_1.length : Int) : Int) := od
            obtain ⟨hx27_0,hf27_0⟩ := Kd.R_celln 0 HQ31.out ((ji21) : Int) p27 q27
            replace p27 := eq_true p27
            replace q27 := eq_true q27
            have HP32 := Kd.R_putn HQ31.out ((ji21) : Int) (rd x0_1 x7_4)
            rw [← Ny279.out] at HP32
            have HQ32 := am HP32
            clear HP32
            refine start_ (n := 18) (S := fun w' => w'.cell? ⟨go26,((ji21)).toNat,none⟩ = some (.int .u64 (rd x0_1 (ji21))) ∧ w'.cell? ⟨go26,(x7_4).toNat,none⟩ = some (.int .u64 (rd x0_1 x7_4))) (ds := [15,17]) (bz 18 0) (by kernel_rfl) rfl rfl ⟨hx276_0,hx277_0⟩ (fun hHeld => ?_);refine with_tabW slices_partialInsertionSortOrdered_uint64.tab11 slices_partialInsertionSortOrdered_uint64.bits11 (fun HT_ HW_ => ?_)
            generalize wc.drew = w29 at HO_0 HK HB GG26 HQ31 HQ32 hf26_0 hf27_0 hx26_0 hx276_0 hx277_0 hx27_0 hHeld ⊢
            refine pk 0 42 (bz 18 1) HT_ ?_
            refine pk 1 43 (bz 18 3) HT_ ?_
            refine pk 2 44 (bz 18 7) HT_ ?_
            refine pk 3 45 (bz 18 15) HT_ ?_
            refine pk 4 46 (bz 18 31) HT_ ?_
            refine pk 5 47 (bz 18 63) HT_ ?_
            refine pk 6 48 (bz 18 127) HT_ ?_
            refine pk 7 49 (bz 18 255) HT_ ?_
            refine pk 8 50 (bz 18 511) HT_ ?_
            refine pk 10 52 (bz 18 1535) HT_ ?_
            refine pk 11 53 (bz 18 3583) HT_ ?_
            refine pk 12 54 (bz 18 7679) HT_ ?_
            refine tk 9 51 (bz 18 8191) HT_ HW_ hHeld ?_
            refine tk 13 55 (bz 18 16383) HT_ HW_ hHeld ?_
            refine pk 14 56 (bz 18 32767) HT_ ?_
            refine last_ (i := 15) (N := none) (bz 18 65535) rfl rfl (one_of HT_.out (by kernel_rfl)) (by decide) (fun K hK => ?_)
            refine skip_ (w1 := ?_) (by rfl) rfl ?_ ?_
            rotate_left
            ·go_simp
             rfl
            refine hK.out _ _ ?_
            clear hK K
            refine pk 16 57 (bz 18 131071) HT_ ?_
            refine last_ (i := 17) (N := none) (bz 18 262143) rfl rfl (one_of HT_.out (by kernel_rfl)) (by decide) (fun K hK => ?_)
            refine skip_ (w1 := ?_) (by rfl) rfl ?_ ?_
            rotate_left
            ·go_simp
             rfl
            refine hK.out _ _ ?_
            clear hK K
            refine done_ (done_of HT_.out (by kernel_rfl)) ?_
            go_upto_if 61 with (fail)
            go_cut [] (fun wc => ∃ (kq : Nat) (x0_27 : List Int),Aside0 (slices_partialInsertionSortOrdered_uint64.j4 kq x0_27 a1 a2 x7_4 x8_1 = some (r1,r2)) ∧ Aside0 (kq ≤ kj4) ∧ Aside0 (Kd.R (Kd.int .u64) 22 wc w0.heap.size (fun k_ => (P0_ k_ ∨ w.heap.size ≤ k_)) (.slice (some ⟨go26,0,none⟩) x0_1.length co30) x0_27) ∧ Aside0 (Kept w wc (fun k_ => P0_ k_)) ∧ Aside0 (Below w0.heap.size w0 wc))
            case first =>
             have H := HC28.out
             clear HC28
             by_cases c33 : (wrap64 (x7_4 - a1)) ≥ 2
             ·rw [if_pos c33] at H
              have c33b0 : decide (2 ≤ (wrap64 (x7_4 - a1))) = true := decide_eq_true c33
              clear c33
              (first|rw [c33b0]|(simp only [i64_w,i32_w];rw [c33b0])|skip)
              have H' := am H
              clear H
              go_wp2
              go_loopg [9] kj4 (fun kq v9 w' => ∃ (x0_3 : List Int) (x9_3 : Int),v9 = .int .i64 x9_3 ∧ Aside0 (slices_partialInsertionSortOrdered_uint64.l2 kq x0_3 a1 a2 x7_4 x8_1 x9_3 = some (r1,r2)) ∧ Aside0 (kq ≤ kj4) ∧ Aside0 (Kd.R (Kd.int .u64) 22 w' w0.heap.size (fun k_ => (P0_ k_ ∨ w.heap.size ≤ k_)) (.slice (some ⟨go26,0,none⟩) x0_1.length co30) x0_3) ∧ Aside0 (Kept w w' (fun k_ => P0_ k_)) ∧ Aside0 (Below w0.heap.size w0 w'))
              case atStart => exact ⟨(y279),(ji21),(by first|rfl|(simp;done)|(simp only [← hji21] <;> (first|rfl|simp))|(simp [*];done)),H',⟨Nat.le_refl _⟩,⟨by (with_reducible repeat (first|apply Kd.R_alloc|apply Kd.R_drewN|apply Kd.R_drew));exact HQ32.out⟩,⟨by repeat (first|(with_reducible first|exact HK.out|apply Kept.alloc|apply Kept.drewN|apply Kept.drew|refine Kept.setCell ?_ HMgo26.out _|refine Kept.setCell ?_ HMgo26.out _)|exact HK.out)⟩,⟨by repeat (first|(with_reducible first|exact HB.out|apply below_alloc|apply pw_below_drewN|apply below_drew1|refine below_set ?_ GB26.out|refine below_set ?_ GB26.out)|exact HB.out)⟩⟩
              case round =>
               clear H'
               try clear c1
               try clear c2
               try clear p2
               try clear q2
               try clear hx2
               try clear c3
               try clear c4
               try clear c4b0
               try clear c6
               try clear c6b0
               try clear p6
               try clear c7
               try clear c7b0
               try clear c8
               try clear c8b0
               try clear c10
               try clear c10b0
               try clear c11
               try clear c11b0
               try clear c13
               try clear c19
               try clear c19b0
               try clear c19b1
               try clear c20
               try clear c20b0
               try clear c22
               try clear c22b0
               try clear c23
               try clear c23b0
               try clear c24
               try clear c24b0
               try clear c25
               try clear c25b0
               try clear p26
               try clear q26
               try clear hx26
               try clear hf26
               try clear p27
               try clear q27
               try clear hx27
               try clear hf27
               try clear c33
               try clear c33b0
               try clear hx26_0
               try clear hx273_0
               try clear hx274_0
               try clear hx276_0
               try clear hx277_0
               try clear hx27_0
               try clear p2
               try clear p26
               try clear p27
               try clear p273
               try clear p274
               try clear p276
               try clear p277
               try clear p6
               try clear q2
               try clear q26
               try clear q27
               try clear q273
               try clear q274
               try clear q276
               try clear q277
               obtain ⟨x0_3,x9_3,rfl,HA,HK3,HO_0,HK,HB⟩ := hrel
               have hl0_3 := (Kd.R_reads' HO_0.out).1
               rw [hl0_3] at HO_0
               (try simp only [hl0_3])
               cases gk with
               | zero => exact absurd HA.out (by simp [slices_partialInsertionSortOrdered_uint64.l2])
               | succ k3 =>
                have H := HA.out
                clear HA
                simp only [slices_partialInsertionSortOrdered_uint64.l2] at H
                by_cases c34 : x9_3 ≥ 1
                ·rw [if_pos c34] at H
                 have c34b0 : decide (1 ≤ x9_3) = true := decide_eq_true c34
                 clear c34
                 by_cases c35 : 0 ≤ x9_3
                 ·rw [if_pos c35] at H
                  have c35b0 : decide (0 ≤ x9_3) = true := decide_eq_true c35
                  clear c35
                  by_cases c36 : x9_3 < (x0_3.length : Int)
                  ·rw [if_pos c36] at H
                   have c36b0 : decide (x9_3 < (x0_3.length : Int)) = true := decide_eq_true c36
                   clear c36
                   obtain ⟨ji37,hji37⟩ : ∃ j_ : Int,(wrap64 (x9_3 - 1)) = j_ := ⟨_,rfl⟩
                   first|rw [hji37] at H|simp only [hji37] at H
                   have hji37w : (IntKind.i64.wrap (x9_3 - 1)) = ji37 := (i64_w _).trans hji37
                   by_cases c38 : 0 ≤ (ji37)
                   ·rw [if_pos c38] at H
                    have c38b0 : decide (0 ≤ (ji37)) = true := decide_eq_true c38
                    clear c38
                    by_cases c39 : (ji37) < (x0_3.length : Int)
                    ·rw [if_pos c39] at H
                     have c39b0 : decide ((ji37) < (x0_3.length : Int)) = true := decide_eq_true c39
                     clear c39
                     replace H := Option.bind_eq_some_iff.mp H
                     obtain ⟨t282,A400,H⟩ := H
                     try dsimp only at H
                     have A40 := am A400
                     clear A400
                     by_cases c41 : t282 = true
                     ·subst c41
                      rw [if_pos rfl] at H
                      obtain ⟨y285,hy285⟩ : ∃ y_ : List Int,y_ = (x0_3.set (x9_3 : Int).toNat (rd x0_3 (ji37))) := ⟨_,rfl⟩
                      replace H : (slices_partialInsertionSortOrdered_uint64.l2 k3 (y285.set ((ji37) : Int).toNat (rd x0_3 x9_3)) a1 a2 x7_4 x8_1 ji37) = some (r1,r2) := by first|(rw [hy285];with_reducible exact H)|(have H2_ := (Option.bind_some _ _).symm.trans H;rw [hy285];with_reducible exact H2_)|(have H2_ := (Option.bind_some _ _).symm.trans H;with_reducible exact H2_)|with_reducible exact H|(rw [hy285];exact H)|exact H
                      have Ny285 := am hy285
                      clear hy285
                      obtain ⟨y286,hy286⟩ : ∃ y_ : List Int,y_ = (y285.set ((ji37) : Int).toNat (rd x0_3 x9_3)) := ⟨_,rfl⟩
                      replace H : (slices_partialInsertionSortOrdered_uint64.l2 k3 y286 a1 a2 x7_4 x8_1 ji37) = some (r1,r2) := by first|(rw [hy286];with_reducible exact H)|(have H2_ := (Option.bind_some _ _).symm.trans H;rw [hy286];with_reducible exact H2_)|(have H2_ := (Option.bind_some _ _).symm.trans H;with_reducible exact H2_)|with_reducible exact H|(rw [hy286];exact H)|exact H
                      have Ny286 := am hy286
                      clear hy286
                      have H' := am H
                      clear H
                      try go_wp2
                      have n0_ := am (Kd.R_drew HO_0.out)
                      have n1_ := am (Kept.drew HK.out)
                      have n2_ := am (below_drew1 HB.out)
                      clear HO_0
                      clear HK
                      clear HB
                      have HO_0 := n0_
                      have HK := n1_
                      have HB := n2_
                      clear n0_ n1_ n2_
                      have p280 : 0 ≤ (x9_3 : Int) := od
                      have q280 : x9_3 < (x0_3.length : Int) := od
                      obtain ⟨ad280,e280,hx280_0⟩ := Kd.at_int (Kd.R_reads' HO_0.out).2.2 x9_3 p280 q280
                      obtain rfl : (⟨go26,0,none⟩ : Addr) = ad280 := (by injection e280)
                      (first|simp only [add_plain] at hx280_0|simp only [add_at] at hx280_0|simp only [Addr.add,Nat.zero_add] at hx280_0|skip)
                      replace p280 := eq_true p280
                      replace q280 := eq_true q280
                      have p281 : 0 ≤ ((ji37) : Int) := od
                      have q281 : (ji37) < (x0_3.length : Int) := od
                      obtain ⟨ad281,e281,hx281_0⟩ := Kd.at_int (Kd.R_reads' HO_0.out).2.2 (ji37) p281 q281
                      obtain rfl : (⟨go26,0,none⟩ : Addr) = ad281 := (by injection e281)
                      (first|simp only [add_plain] at hx281_0|simp only [add_at] at hx281_0|simp only [Addr.add,Nat.zero_add] at hx281_0|skip)
                      replace p281 := eq_true p281
                      replace q281 := eq_true q281
                      refine start_ (n := 11) (S := fun w' => w'.cell? ⟨go26,(x9_3).toNat,none⟩ = some (.int .u64 (rd x0_3 x9_3)) ∧ w'.cell? ⟨go26,((ji37)).toNat,none⟩ = some (.int .u64 (rd x0_3 (ji37)))) (ds := []) (bz 11 0) (by kernel_rfl) rfl rfl ⟨hx280_0,hx281_0⟩ (fun hHeld => ?_);refine with_tabW slices_partialInsertionSortOrdered_uint64.tab16 slices_partialInsertionSortOrdered_uint64.bits16 (fun HT_ HW_ => ?_)
                      generalize wr.drew = w44 at HO_0 HK HB hx280_0 hx281_0 hHeld ⊢
                      refine pk 0 68 (bz 11 1) HT_ ?_
                      refine pk 1 69 (bz 11 3) HT_ ?_
                      refine pk 2 70 (bz 11 7) HT_ ?_
                      refine pk 4 72 (bz 11 23) HT_ ?_
                      refine pk 5 73 (bz 11 55) HT_ ?_
                      refine pk 6 74 (bz 11 119) HT_ ?_
                      refine pk 7 75 (bz 11 247) HT_ ?_
                      refine tk 3 71 (bz 11 255) HT_ HW_ hHeld ?_
                      refine tk 8 76 (bz 11 511) HT_ HW_ hHeld ?_
                      refine on 9 77 (bz 11 1023) HT_ (fun K hK => ?_)
                      refine goes_ Try.func111 (by kernel_rfl) rfl #[.int .u64 (rd x0_3 x9_3),.int .u64 (rd x0_3 (ji37))] (by rfl) rfl rfl (by (try simp only [List.map_toArray,List.map_cons,List.map_nil]);first|done|(simp only [hji37];rfl)|rfl|(simp only [List.length_drop,List.length_take];rfl)) ?_
                      with_reducible refine (cmp_Less_uint64.calls (rd x0_3 x9_3) (rd x0_3 (ji37)) true _ A40.out).mono ?_
                      rintro e w' ⟨rfl,⟨nd,rfl⟩⟩
                      refine ⟨_,rfl,?_⟩
                      refine hK.out _ _ ⟨hHeld.1,hHeld.2⟩ (fun hHeld => ?_)
                      clear hK K
                      refine nm 77 ?_
                      refine pk 10 78 (bz 11 2047) HT_ ?_
                      refine done_ (done_of HT_.out (by kernel_rfl)) ?_
                      try go_wp2
                      (try (rw [drewN_self w44];generalize hq_ : World.drewN w44 _ = w44;have n0_ : Aside0 (Kd.R (Kd.int .u64) 22 w44 w0.heap.size (fun k_ => (P0_ k_ ∨ w.heap.size ≤ k_)) (.slice (some ⟨go26,0,none⟩) x0_3.length co30) x0_3) := ⟨by rw [← hq_];exact (rr HO_0)⟩;have n1_ : Aside0 (Kept w w44 (fun k_ => P0_ k_)) := ⟨by rw [← hq_];exact (by repeat (first|(with_reducible first|exact HK.out|apply Kept.alloc|apply Kept.drewN|apply Kept.drew)|exact HK.out))⟩;have n2_ : Aside0 (Below w0.heap.size w0 w44) := ⟨by rw [← hq_];exact (bb HB)⟩;clear HO_0 HK HB hq_;have HO_0 := n0_;have HK := n1_;have HB := n2_;clear n0_ n1_ n2_))
                      have n0_ := am (Kd.R_drew HO_0.out)
                      have n1_ := am (Kept.drew HK.out)
                      have n2_ := am (below_drew1 HB.out)
                      clear HO_0
                      clear HK
                      clear HB
                      have HO_0 := n0_
                      have HK := n1_
                      have HB := n2_
                      clear n0_ n1_ n2_
                      have p283 : 0 ≤ ((ji37) : Int) := od
                      have q283 : (ji37) < (x0_3.length : Int) := od
                      obtain ⟨ad283,e283,hx283_0⟩ := Kd.at_int (Kd.R_reads' HO_0.out).2.2 (ji37) p283 q283
                      obtain rfl : (⟨go26,0,none⟩ : Addr) = ad283 := (by injection e283)
                      (first|simp only [add_plain] at hx283_0|simp only [add_at] at hx283_0|simp only [Addr.add,Nat.zero_add] at hx283_0|skip)
                      replace p283 := eq_true p283
                      replace q283 := eq_true q283
                      have p284 : 0 ≤ (x9_3 : Int) := od
                      have q284 : x9_3 < (x0_3.length : Int) := od
                      obtain ⟨ad284,e284,hx284_0⟩ := Kd.at_int (Kd.R_reads' HO_0.out).2.2 x9_3 p284 q284
                      obtain rfl : (⟨go26,0,none⟩ : Addr) = ad284 := (by injection e284)
                      (first|simp only [add_plain] at hx284_0|simp only [add_at] at hx284_0|simp only [Addr.add,Nat.zero_add] at hx284_0|skip)
                      replace p284 := eq_true p284
                      replace q284 := eq_true q284
                      have p42 : 0 ≤ (x9_3 : Int) := od
                      have q42 : (x9_3 : Int) < ((x0_3.length : Int) : Int) := od
                      obtain ⟨hx42_0,hf42_0⟩ := Kd.R_celln 0 HO_0.out (x9_3 : Int) p42 q42
                      replace p42 := eq_true p42
                      replace q42 := eq_true q42
                      have HP46 := Kd.R_putn HO_0.out (x9_3 : Int) (rd x0_3 (ji37))
                      rw [← Ny285.out] at HP46
                      have HQ46 := am HP46
                      clear HP46
                      have p43 : 0 ≤ ((ji37) : Int) := od
                      have q43 : ((ji37) : Int) < ((x0_3.length : Int) : Int) := od
                      obtain ⟨hx43_0,hf43_0⟩ := Kd.R_celln 0 HQ46.out ((ji37) : Int) p43 q43
                      replace p43 := eq_true p43
                      replace q43 := eq_true q43
                      have HP47 := Kd.R_putn HQ46.out ((ji37) : Int) (rd x0_3 x9_3)
                      rw [← Ny286.out] at HP47
                      have HQ47 := am HP47
                      clear HP47
                      refine start_ (n := 18) (S := fun w' => w'.cell? ⟨go26,((ji37)).toNat,none⟩ = some (.int .u64 (rd x0_3 (ji37))) ∧ w'.cell? ⟨go26,(x9_3).toNat,none⟩ = some (.int .u64 (rd x0_3 x9_3))) (ds := [15,17]) (bz 18 0) (by kernel_rfl) rfl rfl ⟨hx283_0,hx284_0⟩ (fun hHeld => ?_);refine with_tabW slices_partialInsertionSortOrdered_uint64.tab17 slices_partialInsertionSortOrdered_uint64.bits17 (fun HT_ HW_ => ?_)
                      generalize w44.drew = w45 at HO_0 HK HB HQ46 HQ47 hf42_0 hf43_0 hx283_0 hx284_0 hx42_0 hx43_0 hHeld ⊢
                      refine pk 0 79 (bz 18 1) HT_ ?_
                      refine pk 1 80 (bz 18 3) HT_ ?_
                      refine pk 2 81 (bz 18 7) HT_ ?_
                      refine pk 3 82 (bz 18 15) HT_ ?_
                      refine pk 4 83 (bz 18 31) HT_ ?_
                      refine pk 5 84 (bz 18 63) HT_ ?_
                      refine pk 6 85 (bz 18 127) HT_ ?_
                      refine pk 7 86 (bz 18 255) HT_ ?_
                      refine pk 8 87 (bz 18 511) HT_ ?_
                      refine pk 10 89 (bz 18 1535) HT_ ?_
                      refine pk 11 90 (bz 18 3583) HT_ ?_
                      refine pk 12 91 (bz 18 7679) HT_ ?_
                      refine tk 9 88 (bz 18 8191) HT_ HW_ hHeld ?_
                      refine tk 13 92 (bz 18 16383) HT_ HW_ hHeld ?_
                      refine pk 14 93 (bz 18 32767) HT_ ?_
                      refine last_ (i := 15) (N := none) (bz 18 65535) rfl rfl (one_of HT_.out (by kernel_rfl)) (by decide) (fun K hK => ?_)
                      refine skip_ (w1 := ?_) (by rfl) rfl ?_ ?_
                      rotate_left
                      ·go_simp
                       rfl
                      refine hK.out _ _ ?_
                      clear hK K
                      refine pk 16 94 (bz 18 131071) HT_ ?_
                      refine last_ (i := 17) (N := none) (bz 18 262143) rfl rfl (one_of HT_.out (by kernel_rfl)) (by decide) (fun K hK => ?_)
                      refine skip_ (w1 := ?_) (by rfl) rfl ?_ ?_
                      rotate_left
                      ·go_simp
                       rfl
                      refine hK.out _ _ ?_
                      clear hK K
                      refine done_ (done_of HT_.out (by kernel_rfl)) ?_
                      try go_wp2
                      (try simp only [← hl0_3])
                      go_roundg k3
                      case measure => have := HK1.out;have := HJ4.out;have := HK3.out;omega
                      case rel => exact ⟨(y286),(ji37),(by first|rfl|(simp;done)|(simp only [← hji37] <;> (first|rfl|simp))|(simp [*];done)),H',⟨by have := HK1.out;have := HJ4.out;have := HK3.out;omega⟩,⟨by (try simp only [hl0_3]);(with_reducible repeat (first|apply Kd.R_alloc|apply Kd.R_drewN|apply Kd.R_drew));exact HQ47.out⟩,⟨by repeat (first|(with_reducible first|exact HK.out|apply Kept.alloc|apply Kept.drewN|apply Kept.drew|refine Kept.setCell ?_ HMgo26.out _|refine Kept.setCell ?_ HMgo26.out _)|exact HK.out)⟩,⟨by repeat (first|(with_reducible first|exact HB.out|apply below_alloc|apply pw_below_drewN|apply below_drew1|refine below_set ?_ GB26.out|refine below_set ?_ GB26.out)|exact HB.out)⟩⟩
                     ·replace c41 := Bool.eq_false_iff.mpr c41
                      subst c41
                      rw [if_neg (show ¬ (false = true) by decide)] at H
                      have H' := am H
                      clear H
                      try go_wp2
                      have n0_ := am (Kd.R_drew HO_0.out)
                      have n1_ := am (Kept.drew HK.out)
                      have n2_ := am (below_drew1 HB.out)
                      clear HO_0
                      clear HK
                      clear HB
                      have HO_0 := n0_
                      have HK := n1_
                      have HB := n2_
                      clear n0_ n1_ n2_
                      have p280 : 0 ≤ (x9_3 : Int) := od
                      have q280 : x9_3 < (x0_3.length : Int) := od
                      obtain ⟨ad280,e280,hx280_0⟩ := Kd.at_int (Kd.R_reads' HO_0.out).2.2 x9_3 p280 q280
                      obtain rfl : (⟨go26,0,none⟩ : Addr) = ad280 := (by injection e280)
                      (first|simp only [add_plain] at hx280_0|simp only [add_at] at hx280_0|simp only [Addr.add,Nat.zero_add] at hx280_0|skip)
                      replace p280 := eq_true p280
                      replace q280 := eq_true q280
                      have p281 : 0 ≤ ((ji37) : Int) := od
                      have q281 : (ji37) < (x0_3.length : Int) := od
                      obtain ⟨ad281,e281,hx281_0⟩ := Kd.at_int (Kd.R_reads' HO_0.out).2.2 (ji37) p281 q281
                      obtain rfl : (⟨go26,0,none⟩ : Addr) = ad281 := (by injection e281)
                      (first|simp only [add_plain] at hx281_0|simp only [add_at] at hx281_0|simp only [Addr.add,Nat.zero_add] at hx281_0|skip)
                      replace p281 := eq_true p281
                      replace q281 := eq_true q281
                      refine start_ (n := 11) (S := fun w' => w'.cell? ⟨go26,(x9_3).toNat,none⟩ = some (.int .u64 (rd x0_3 x9_3)) ∧ w'.cell? ⟨go26,((ji37)).toNat,none⟩ = some (.int .u64 (rd x0_3 (ji37)))) (ds := []) (bz 11 0) (by kernel_rfl) rfl rfl ⟨hx280_0,hx281_0⟩ (fun hHeld => ?_);refine with_tabW slices_partialInsertionSortOrdered_uint64.tab16 slices_partialInsertionSortOrdered_uint64.bits16 (fun HT_ HW_ => ?_)
                      generalize wr.drew = w48 at HO_0 HK HB hx280_0 hx281_0 hHeld ⊢
                      refine pk 0 68 (bz 11 1) HT_ ?_
                      refine pk 1 69 (bz 11 3) HT_ ?_
                      refine pk 2 70 (bz 11 7) HT_ ?_
                      refine pk 4 72 (bz 11 23) HT_ ?_
                      refine pk 5 73 (bz 11 55) HT_ ?_
                      refine pk 6 74 (bz 11 119) HT_ ?_
                      refine pk 7 75 (bz 11 247) HT_ ?_
                      refine tk 3 71 (bz 11 255) HT_ HW_ hHeld ?_
                      refine tk 8 76 (bz 11 511) HT_ HW_ hHeld ?_
                      refine on 9 77 (bz 11 1023) HT_ (fun K hK => ?_)
                      refine goes_ Try.func111 (by kernel_rfl) rfl #[.int .u64 (rd x0_3 x9_3),.int .u64 (rd x0_3 (ji37))] (by rfl) rfl rfl (by (try simp only [List.map_toArray,List.map_cons,List.map_nil]);first|done|(simp only [hji37];rfl)|rfl|(simp only [List.length_drop,List.length_take];rfl)) ?_
                      with_reducible refine (cmp_Less_uint64.calls (rd x0_3 x9_3) (rd x0_3 (ji37)) false _ A40.out).mono ?_
                      rintro e w' ⟨rfl,⟨nd,rfl⟩⟩
                      refine ⟨_,rfl,?_⟩
                      refine hK.out _ _ ⟨hHeld.1,hHeld.2⟩ (fun hHeld => ?_)
                      clear hK K
                      refine nm 77 ?_
                      refine pk 10 78 (bz 11 2047) HT_ ?_
                      refine done_ (done_of HT_.out (by kernel_rfl)) ?_
                      try go_wp2
                      (try simp only [← hl0_3])
                      go_meet
                      case rel => exact ⟨_,(x0_3),H',⟨by have := HK1.out;have := HJ4.out;have := HK3.out;first|omega|exact Nat.le_refl _⟩,⟨by (try simp only [hl0_3]);(with_reducible repeat (first|apply Kd.R_alloc|apply Kd.R_drewN|apply Kd.R_drew));exact HO_0.out⟩,⟨by repeat (first|(with_reducible first|exact HK.out|apply Kept.alloc|apply Kept.drewN|apply Kept.drew)|exact HK.out)⟩,⟨bb HB⟩⟩
                    ·rw [if_neg c39] at H
                     exact absurd H (by simp)
                   ·rw [if_neg c38] at H
                    exact absurd H (by simp)
                  ·rw [if_neg c36] at H
                   exact absurd H (by simp)
                 ·rw [if_neg c35] at H
                  exact absurd H (by simp)
                ·rw [if_neg c34] at H
                 have c34b0 : decide (1 ≤ x9_3) = false := decide_eq_false c34
                 clear c34
                 have H' := am H
                 clear H
                 go_wp2
                 (try simp only [← hl0_3])
                 go_meet
                 case rel => exact ⟨_,(x0_3),H',⟨by have := HK1.out;have := HJ4.out;have := HK3.out;first|omega|exact Nat.le_refl _⟩,⟨by (try simp only [hl0_3]);(with_reducible repeat (first|apply Kd.R_alloc|apply Kd.R_drewN|apply Kd.R_drew));exact HO_0.out⟩,⟨by repeat (first|(with_reducible first|exact HK.out|apply Kept.alloc|apply Kept.drewN|apply Kept.drew)|exact HK.out)⟩,⟨bb HB⟩⟩
             ·rw [if_neg c33] at H
              have c33b0 : decide (2 ≤ (wrap64 (x7_4 - a1))) = false := decide_eq_false c33
              clear c33
              (first|rw [c33b0]|(simp only [i64_w,i32_w];rw [c33b0])|skip)
              have H' := am H
              clear H
              go_wp2
              go_meet
              case rel => exact ⟨_,(y279),H',⟨by have := HK1.out;have := HJ4.out;first|omega|exact Nat.le_refl _⟩,⟨by (with_reducible repeat (first|apply Kd.R_alloc|apply Kd.R_drewN|apply Kd.R_drew));exact HQ32.out⟩,⟨by repeat (first|(with_reducible first|exact HK.out|apply Kept.alloc|apply Kept.drewN|apply Kept.drew|refine Kept.setCell ?_ HMgo26.out _|refine Kept.setCell ?_ HMgo26.out _)|exact HK.out)⟩,⟨by repeat (first|(with_reducible first|exact HB.out|apply below_alloc|apply pw_below_drewN|apply below_drew1|refine below_set ?_ GB26.out|refine below_set ?_ GB26.out)|exact HB.out)⟩⟩
            case rest =>
             clear HC28
             try clear c1
             try clear c2
             try clear p2
             try clear q2
             try clear hx2
             try clear c3
             try clear c4
             try clear c4b0
             try clear p4
             try clear q4
             try clear hx4
             try clear hf4
             try clear c6
             try clear c6b0
             try clear p6
             try clear c7
             try clear c7b0
             try clear c8
             try clear c8b0
             try clear c10
             try clear c10b0
             try clear c11
             try clear c11b0
             try clear c13
             try clear c19
             try clear c19b0
             try clear c19b1
             try clear c20
             try clear c20b0
             try clear c22
             try clear c22b0
             try clear c23
             try clear c23b0
             try clear c24
             try clear c24b0
             try clear c25
             try clear c25b0
             try clear p26
             try clear q26
             try clear hx26
             try clear hf26
             try clear p27
             try clear q27
             try clear hx27
             try clear hf27
             try clear p28
             try clear q28
             try clear hx28
             try clear c33
             try clear c33b0
             try clear c34
             try clear c34b0
             try clear c35
             try clear c35b0
             try clear c36
             try clear c36b0
             try clear c38
             try clear c38b0
             try clear c39
             try clear c39b0
             try clear c41
             try clear p42
             try clear q42
             try clear hx42
             try clear hf42
             try clear p43
             try clear q43
             try clear hx43
             try clear hf43
             try clear hx26_0
             try clear hx273_0
             try clear hx274_0
             try clear hx276_0
             try clear hx277_0
             try clear hx27_0
             try clear hx280_0
             try clear hx281_0
             try clear hx283_0
             try clear hx284_0
             try clear hx42_0
             try clear hx43_0
             try clear p2
             try clear p26
             try clear p27
             try clear p273
             try clear p274
             try clear p276
             try clear p277
             try clear p280
             try clear p281
             try clear p283
             try clear p284
             try clear p42
             try clear p43
             try clear p6
             try clear q2
             try clear q26
             try clear q27
             try clear q273
             try clear q274
             try clear q276
             try clear q277
             try clear q280
             try clear q281
             try clear q283
             try clear q284
             try clear q42
             try clear q43
             obtain ⟨kq,x0_27,HA,HJ27,HO_0,HK,HB⟩ := hcut
             have hl0_27 := (Kd.R_reads' HO_0.out).1
             rw [hl0_27] at HO_0
             (try simp only [hl0_27])
             cases kq with
             | zero => exact absurd HA.out (by simp [slices_partialInsertionSortOrdered_uint64.j4])
             | succ kj27 =>
              have H := HA.out
              clear HA
              simp only [slices_partialInsertionSortOrdered_uint64.j4] at H
              by_cases c49 : (wrap64 (a2 - x7_4)) ≥ 2
              ·rw [if_pos c49] at H
               have c49b0 : decide (2 ≤ (wrap64 (a2 - x7_4))) = true := decide_eq_true c49
               clear c49
               have H' := am H
               clear H
               go_wp2
               go_loopg [10] kj27 (fun kq v10 w' => ∃ (x0_4 : List Int) (x10_4 : Int),v10 = .int .i64 x10_4 ∧ Aside0 (slices_partialInsertionSortOrdered_uint64.l3 kq x0_4 a1 a2 x7_4 x8_1 x10_4 = some (r1,r2)) ∧ Aside0 (kq ≤ kj27) ∧ Aside0 (Kd.R (Kd.int .u64) 22 w' w0.heap.size (fun k_ => (P0_ k_ ∨ w.heap.size ≤ k_)) (.slice (some ⟨go26,0,none⟩) x0_27.length co30) x0_4) ∧ Aside0 (Kept w w' (fun k_ => P0_ k_)) ∧ Aside0 (Below w0.heap.size w0 w'))
               case atStart => exact ⟨(x0_27),(wrap64 (x7_4 + 1)),(by first|rfl|(simp;done)|(simp [*];done)),H',⟨Nat.le_refl _⟩,⟨by (try simp only [hl0_27]);(with_reducible repeat (first|apply Kd.R_alloc|apply Kd.R_drewN|apply Kd.R_drew));exact HO_0.out⟩,⟨by repeat (first|(with_reducible first|exact HK.out|apply Kept.alloc|apply Kept.drewN|apply Kept.drew)|exact HK.out)⟩,⟨bb HB⟩⟩
               case round =>
                clear H'
                try clear c1
                try clear c2
                try clear p2
                try clear q2
                try clear hx2
                try clear c3
                try clear c4
                try clear c4b0
                try clear p4
                try clear q4
                try clear hx4
                try clear hf4
                try clear c6
                try clear c6b0
                try clear p6
                try clear c7
                try clear c7b0
                try clear c8
                try clear c8b0
                try clear c10
                try clear c10b0
                try clear c11
                try clear c11b0
                try clear c13
                try clear c19
                try clear c19b0
                try clear c19b1
                try clear c20
                try clear c20b0
                try clear c22
                try clear c22b0
                try clear c23
                try clear c23b0
                try clear c24
                try clear c24b0
                try clear c25
                try clear c25b0
                try clear p26
                try clear q26
                try clear hx26
                try clear hf26
                try clear p27
                try clear q27
                try clear hx27
                try clear hf27
                try clear p28
                try clear q28
                try clear hx28
                try clear c33
                try clear c33b0
                try clear c34
                try clear c34b0
                try clear c35
                try clear c35b0
                try clear c36
                try clear c36b0
                try clear c38
                try clear c38b0
                try clear c39
                try clear c39b0
                try clear c41
                try clear p42
                try clear q42
                try clear hx42
                try clear hf42
                try clear p43
                try clear q43
                try clear hx43
                try clear hf43
                try clear c49
                try clear c49b0
                try clear hx26_0
                try clear hx273_0
                try clear hx274_0
                try clear hx276_0
                try clear hx277_0
                try clear hx27_0
                try clear hx280_0
                try clear hx281_0
                try clear hx283_0
                try clear hx284_0
                try clear hx42_0
                try clear hx43_0
                try clear p2
                try clear p26
                try clear p27
                try clear p273
                try clear p274
                try clear p276
                try clear p277
                try clear p28
                try clear p280
                try clear p281
                try clear p283
                try clear p284
                try clear p4
                try clear p42
                try clear p43
                try clear p6
                try clear q2
                try clear q26
                try clear q27
                try clear q273
                try clear q274
                try clear q276
                try clear q277
                try clear q28
                try clear q280
                try clear q281
                try clear q283
                try clear q284
                try clear q4
                try clear q42
                try clear q43
                obtain ⟨x0_4,x10_4,rfl,HA,HK4,HO_0,HK,HB⟩ := hrel
                have hl0_4 := (Kd.R_reads' HO_0.out).1
                rw [hl0_4] at HO_0
                (try simp only [hl0_4])
                cases gk with
                | zero => exact absurd HA.out (by simp [slices_partialInsertionSortOrdered_uint64.l3])
                | succ k4 =>
                 have H := HA.out
                 clear HA
                 simp only [slices_partialInsertionSortOrdered_uint64.l3] at H
                 by_cases c50 : x10_4 < a2
                 ·rw [if_pos c50] at H
                  have c50b0 : decide (x10_4 < a2) = true := decide_eq_true c50
                  clear c50
                  by_cases c51 : 0 ≤ x10_4
                  ·rw [if_pos c51] at H
                   have c51b0 : decide (0 ≤ x10_4) = true := decide_eq_true c51
                   clear c51
                   by_cases c52 : x10_4 < (x0_4.length : Int)
                   ·rw [if_pos c52] at H
                    have c52b0 : decide (x10_4 < (x0_4.length : Int)) = true := decide_eq_true c52
                    clear c52
                    obtain ⟨ji53,hji53⟩ : ∃ j_ : Int,(wrap64 (x10_4 - 1)) = j_ := ⟨_,rfl⟩
                    first|rw [hji53] at H|simp only [hji53] at H
                    have hji53w : (IntKind.i64.wrap (x10_4 - 1)) = ji53 := (i64_w _).trans hji53
                    by_cases c54 : 0 ≤ (ji53)
                    ·rw [if_pos c54] at H
                     have c54b0 : decide (0 ≤ (ji53)) = true := decide_eq_true c54
                     clear c54
                     by_cases c55 : (ji53) < (x0_4.length : Int)
                     ·rw [if_pos c55] at H
                      have c55b0 : decide ((ji53) < (x0_4.length : Int)) = true := decide_eq_true c55
                      clear c55
                      replace H := Option.bind_eq_some_iff.mp H
                      obtain ⟨t289,A560,H⟩ := H
                      try dsimp only at H
                      have A56 := am A560
                      clear A560
                      by_cases c57 : t289 = true
                      ·subst c57
                       rw [if_pos rfl] at H
                       obtain ⟨y292,hy292⟩ : ∃ y_ : List Int,y_ = (x0_4.set (x10_4 : Int).toNat (rd x0_4 (ji53))) := ⟨_,rfl⟩
                       replace H : (slices_partialInsertionSortOrdered_uint64.l3 k4 (y292.set ((ji53) : Int).toNat (rd x0_4 x10_4)) a1 a2 x7_4 x8_1 (wrap64 (x10_4 + 1))) = some (r1,r2) := by first|(rw [hy292];with_reducible exact H)|(have H2_ := (Option.bind_some _ _).symm.trans H;rw [hy292];with_reducible exact H2_)|(have H2_ := (Option.bind_some _ _).symm.trans H;with_reducible exact H2_)|with_reducible exact H|(rw [hy292];exact H)|exact H
                       have Ny292 := am hy292
                       clear hy292
                       obtain ⟨y293,hy293⟩ : ∃ y_ : List Int,y_ = (y292.set ((ji53) : Int).toNat (rd x0_4 x10_4)) := ⟨_,rfl⟩
                       replace H : (slices_partialInsertionSortOrdered_uint64.l3 k4 y293 a1 a2 x7_4 x8_1 (wrap64 (x10_4 + 1))) = some (r1,r2) := by first|(rw [hy293];with_reducible exact H)|(have H2_ := (Option.bind_some _ _).symm.trans H;rw [hy293];with_reducible exact H2_)|(have H2_ := (Option.bind_some _ _).symm.trans H;with_reducible exact H2_)|with_reducible exact H|(rw [hy293];exact H)|exact H
                       have Ny293 := am hy293
                       clear hy293
                       have H' := am H
                       clear H
                       try go_wp2
                       have n0_ := am (Kd.R_drew HO_0.out)
                       have n1_ := am (Kept.drew HK.out)
                       have n2_ := am (below_drew1 HB.out)
                       clear HO_0
                       clear HK
                       clear HB
                       have HO_0 := n0_
                       have HK := n1_
                       have HB := n2_
                       clear n0_ n1_ n2_
                       have p287 : 0 ≤ (x10_4 : Int) := od
                       have q287 : x10_4 < (x0_4.length : Int) := od
                       obtain ⟨ad287,e287,hx287_0⟩ := Kd.at_int (Kd.R_reads' HO_0.out).2.2 x10_4 p287 q287
                       obtain rfl : (⟨go26,0,none⟩ : Addr) = ad287 := (by injection e287)
                       (first|simp only [add_plain] at hx287_0|simp only [add_at] at hx287_0|simp only [Addr.add,Nat.zero_add] at hx287_0|skip)
                       replace p287 := eq_true p287
                       replace q287 := eq_true q287
                       have p288 : 0 ≤ ((ji53) : Int) := od
                       have q288 : (ji53) < (x0_4.length : Int) := od
                       obtain ⟨ad288,e288,hx288_0⟩ := Kd.at_int (Kd.R_reads' HO_0.out).2.2 (ji53) p288 q288
                       obtain rfl : (⟨go26,0,none⟩ : Addr) = ad288 := (by injection e288)
                       (first|simp only [add_plain] at hx288_0|simp only [add_at] at hx288_0|simp only [Addr.add,Nat.zero_add] at hx288_0|skip)
                       replace p288 := eq_true p288
                       replace q288 := eq_true q288
                       refine start_ (n := 11) (S := fun w' => w'.cell? ⟨go26,(x10_4).toNat,none⟩ = some (.int .u64 (rd x0_4 x10_4)) ∧ w'.cell? ⟨go26,((ji53)).toNat,none⟩ = some (.int .u64 (rd x0_4 (ji53)))) (ds := []) (bz 11 0) (by kernel_rfl) rfl rfl ⟨hx287_0,hx288_0⟩ (fun hHeld => ?_);refine with_tabW slices_partialInsertionSortOrdered_uint64.tab22 slices_partialInsertionSortOrdered_uint64.bits22 (fun HT_ HW_ => ?_)
                       generalize wr.drew = w60 at HO_0 HK HB hx287_0 hx288_0 hHeld ⊢
                       refine pk 0 106 (bz 11 1) HT_ ?_
                       refine pk 1 107 (bz 11 3) HT_ ?_
                       refine pk 2 108 (bz 11 7) HT_ ?_
                       refine pk 4 110 (bz 11 23) HT_ ?_
                       refine pk 5 111 (bz 11 55) HT_ ?_
                       refine pk 6 112 (bz 11 119) HT_ ?_
                       refine pk 7 113 (bz 11 247) HT_ ?_
                       refine tk 3 109 (bz 11 255) HT_ HW_ hHeld ?_
                       refine tk 8 114 (bz 11 511) HT_ HW_ hHeld ?_
                       refine on 9 115 (bz 11 1023) HT_ (fun K hK => ?_)
                       refine goes_ Try.func111 (by kernel_rfl) rfl #[.int .u64 (rd x0_4 x10_4),.int .u64 (rd x0_4 (ji53))] (by rfl) rfl rfl (by (try simp only [List.map_toArray,List.map_cons,List.map_nil]);first|done|(simp only [hji53];rfl)|rfl|(simp only [List.length_drop,List.length_take];rfl)) ?_
                       with_reducible refine (cmp_Less_uint64.calls (rd x0_4 x10_4) (rd x0_4 (ji53)) true _ A56.out).mono ?_
                       rintro e w' ⟨rfl,⟨nd,rfl⟩⟩
                       refine ⟨_,rfl,?_⟩
                       refine hK.out _ _ ⟨hHeld.1,hHeld.2⟩ (fun hHeld => ?_)
                       clear hK K
                       refine nm 115 ?_
                       refine pk 10 116 (bz 11 2047) HT_ ?_
                       refine done_ (done_of HT_.out (by kernel_rfl)) ?_
                       try go_wp2
                       (try (rw [drewN_self w60];generalize hq_ : World.drewN w60 _ = w60;have n0_ : Aside0 (Kd.R (Kd.int .u64) 22 w60 w0.heap.size (fun k_ => (P0_ k_ ∨ w.heap.size ≤ k_)) (.slice (some ⟨go26,0,none⟩) x0_4.length co30) x0_4) := ⟨by rw [← hq_];exact (rr HO_0)⟩;have n1_ : Aside0 (Kept w w60 (fun k_ => P0_ k_)) := ⟨by rw [← hq_];exact (by repeat (first|(with_reducible first|exact HK.out|apply Kept.alloc|apply Kept.drewN|apply Kept.drew)|exact HK.out))⟩;have n2_ : Aside0 (Below w0.heap.size w0 w60) := ⟨by rw [← hq_];exact (bb HB)⟩;clear HO_0 HK HB hq_;have HO_0 := n0_;have HK := n1_;have HB := n2_;clear n0_ n1_ n2_))
                       have n0_ := am (Kd.R_drew HO_0.out)
                       have n1_ := am (Kept.drew HK.out)
                       have n2_ := am (below_drew1 HB.out)
                       clear HO_0
                       clear HK
                       clear HB
                       have HO_0 := n0_
                       have HK := n1_
                       have HB := n2_
                       clear n0_ n1_ n2_
                       have p290 : 0 ≤ ((ji53) : Int) := od
                       have q290 : (ji53) < (x0_4.length : Int) := od
                       obtain ⟨ad290,e290,hx290_0⟩ := Kd.at_int (Kd.R_reads' HO_0.out).2.2 (ji53) p290 q290
                       obtain rfl : (⟨go26,0,none⟩ : Addr) = ad290 := (by injection e290)
                       (first|simp only [add_plain] at hx290_0|simp only [add_at] at hx290_0|simp only [Addr.add,Nat.zero_add] at hx290_0|skip)
                       replace p290 := eq_true p290
                       replace q290 := eq_true q290
                       have p291 : 0 ≤ (x10_4 : Int) := od
                       have q291 : x10_4 < (x0_4.length : Int) := od
                       obtain ⟨ad291,e291,hx291_0⟩ := Kd.at_int (Kd.R_reads' HO_0.out).2.2 x10_4 p291 q291
                       obtain rfl : (⟨go26,0,none⟩ : Addr) = ad291 := (by injection e291)
                       (first|simp only [add_plain] at hx291_0|simp only [add_at] at hx291_0|simp only [Addr.add,Nat.zero_add] at hx291_0|skip)
                       replace p291 := eq_true p291
                       replace q291 := eq_true q291
                       have p58 : 0 ≤ (x10_4 : Int) := od
                       have q58 : (x10_4 : Int) < ((x0_4.length : Int) : Int) := od
                       obtain ⟨hx58_0,hf58_0⟩ := Kd.R_celln 0 HO_0.out (x10_4 : Int) p58 q58
                       replace p58 := eq_true p58
                       replace q58 := eq_true q58
                       have HP62 := Kd.R_putn HO_0.out (x10_4 : Int) (rd x0_4 (ji53))
                       rw [← Ny292.out] at HP62
                       have HQ62 := am HP62
                       clear HP62
                       have p59 : 0 ≤ ((ji53) : Int) := od
                       have q59 : ((ji53) : Int) < ((x0_4.length : Int) : Int) := od
                       obtain ⟨hx59_0,hf59_0⟩ := Kd.R_celln 0 HQ62.out ((ji53) : Int) p59 q59
                       replace p59 := eq_true p59
                       replace q59 := eq_true q59
                       have HP63 := Kd.R_putn HQ62.out ((ji53) : Int) (rd x0_4 x10_4)
                       rw [← Ny293.out] at HP63
                       have HQ63 := am HP63
                       clear HP63
                       refine start_ (n := 18) (S := fun w' => w'.cell? ⟨go26,((ji53)).toNat,none⟩ = some (.int .u64 (rd x0_4 (ji53))) ∧ w'.cell? ⟨go26,(x10_4).toNat,none⟩ = some (.int .u64 (rd x0_4 x10_4))) (ds := [15,17]) (bz 18 0) (by kernel_rfl) rfl rfl ⟨hx290_0,hx291_0⟩ (fun hHeld => ?_);refine with_tabW slices_partialInsertionSortOrdered_uint64.tab23 slices_partialInsertionSortOrdered_uint64.bits23 (fun HT_ HW_ => ?_)
                       generalize w60.drew = w61 at HO_0 HK HB HQ62 HQ63 hf58_0 hf59_0 hx290_0 hx291_0 hx58_0 hx59_0 hHeld ⊢
                       refine pk 0 117 (bz 18 1) HT_ ?_
                       refine pk 1 118 (bz 18 3) HT_ ?_
                       refine pk 2 119 (bz 18 7) HT_ ?_
                       refine pk 3 120 (bz 18 15) HT_ ?_
                       refine pk 4 121 (bz 18 31) HT_ ?_
                       refine pk 5 122 (bz 18 63) HT_ ?_
                       refine pk 6 123 (bz 18 127) HT_ ?_
                       refine pk 7 124 (bz 18 255) HT_ ?_
                       refine pk 8 125 (bz 18 511) HT_ ?_
                       refine pk 10 127 (bz 18 1535) HT_ ?_
                       refine pk 11 128 (bz 18 3583) HT_ ?_
                       refine pk 12 129 (bz 18 7679) HT_ ?_
                       refine tk 9 126 (bz 18 8191) HT_ HW_ hHeld ?_
                       refine tk 13 130 (bz 18 16383) HT_ HW_ hHeld ?_
                       refine pk 14 131 (bz 18 32767) HT_ ?_
                       refine last_ (i := 15) (N := none) (bz 18 65535) rfl rfl (one_of HT_.out (by kernel_rfl)) (by decide) (fun K hK => ?_)
                       refine skip_ (w1 := ?_) (by rfl) rfl ?_ ?_
                       rotate_left
                       ·go_simp
                        rfl
                       refine hK.out _ _ ?_
                       clear hK K
                       refine pk 16 132 (bz 18 131071) HT_ ?_
                       refine last_ (i := 17) (N := none) (bz 18 262143) rfl rfl (one_of HT_.out (by kernel_rfl)) (by decide) (fun K hK => ?_)
                       refine skip_ (w1 := ?_) (by rfl) rfl ?_ ?_
                       rotate_left
                       ·go_simp
                        rfl
                       refine hK.out _ _ ?_
                       clear hK K
                       refine done_ (done_of HT_.out (by kernel_rfl)) ?_
                       try go_wp2
                       (try simp only [← hl0_4])
                       go_roundg k4
                       case measure => have := HK1.out;have := HJ4.out;have := HJ27.out;have := HK4.out;omega
                       case rel => exact ⟨(y293),(wrap64 (x10_4 + 1)),(by first|rfl|(simp;done)|(simp [*];done)),H',⟨by have := HK1.out;have := HJ4.out;have := HJ27.out;have := HK4.out;omega⟩,⟨by (try simp only [hl0_27]);(try simp only [hl0_4]);(with_reducible repeat (first|apply Kd.R_alloc|apply Kd.R_drewN|apply Kd.R_drew));exact HQ63.out⟩,⟨by repeat (first|(with_reducible first|exact HK.out|apply Kept.alloc|apply Kept.drewN|apply Kept.drew|refine Kept.setCell ?_ HMgo26.out _|refine Kept.setCell ?_ HMgo26.out _)|exact HK.out)⟩,⟨by repeat (first|(with_reducible first|exact HB.out|apply below_alloc|apply pw_below_drewN|apply below_drew1|refine below_set ?_ GB26.out|refine below_set ?_ GB26.out)|exact HB.out)⟩⟩
                      ·replace c57 := Bool.eq_false_iff.mpr c57
                       subst c57
                       rw [if_neg (show ¬ (false = true) by decide)] at H
                       have H' := am H
                       clear H
                       try go_wp2
                       have n0_ := am (Kd.R_drew HO_0.out)
                       have n1_ := am (Kept.drew HK.out)
                       have n2_ := am (below_drew1 HB.out)
                       clear HO_0
                       clear HK
                       clear HB
                       have HO_0 := n0_
                       have HK := n1_
                       have HB := n2_
                       clear n0_ n1_ n2_
                       have p287 : 0 ≤ (x10_4 : Int) := od
                       have q287 : x10_4 < (x0_4.length : Int) := od
                       obtain ⟨ad287,e287,hx287_0⟩ := Kd.at_int (Kd.R_reads' HO_0.out).2.2 x10_4 p287 q287
                       obtain rfl : (⟨go26,0,none⟩ : Addr) = ad287 := (by injection e287)
                       (first|simp only [add_plain] at hx287_0|simp only [add_at] at hx287_0|simp only [Addr.add,Nat.zero_add] at hx287_0|skip)
                       replace p287 := eq_true p287
                       replace q287 := eq_true q287
                       have p288 : 0 ≤ ((ji53) : Int) := od
                       have q288 : (ji53) < (x0_4.length : Int) := od
                       obtain ⟨ad288,e288,hx288_0⟩ := Kd.at_int (Kd.R_reads' HO_0.out).2.2 (ji53) p288 q288
                       obtain rfl : (⟨go26,0,none⟩ : Addr) = ad288 := (by injection e288)
                       (first|simp only [add_plain] at hx288_0|simp only [add_at] at hx288_0|simp only [Addr.add,Nat.zero_add] at hx288_0|skip)
                       replace p288 := eq_true p288
                       replace q288 := eq_true q288
                       refine start_ (n := 11) (S := fun w' => w'.cell? ⟨go26,(x10_4).toNat,none⟩ = some (.int .u64 (rd x0_4 x10_4)) ∧ w'.cell? ⟨go26,((ji53)).toNat,none⟩ = some (.int .u64 (rd x0_4 (ji53)))) (ds := []) (bz 11 0) (by kernel_rfl) rfl rfl ⟨hx287_0,hx288_0⟩ (fun hHeld => ?_);refine with_tabW slices_partialInsertionSortOrdered_uint64.tab22 slices_partialInsertionSortOrdered_uint64.bits22 (fun HT_ HW_ => ?_)
                       generalize wr.drew = w64 at HO_0 HK HB hx287_0 hx288_0 hHeld ⊢
                       refine pk 0 106 (bz 11 1) HT_ ?_
                       refine pk 1 107 (bz 11 3) HT_ ?_
                       refine pk 2 108 (bz 11 7) HT_ ?_
                       refine pk 4 110 (bz 11 23) HT_ ?_
                       refine pk 5 111 (bz 11 55) HT_ ?_
                       refine pk 6 112 (bz 11 119) HT_ ?_
                       refine pk 7 113 (bz 11 247) HT_ ?_
                       refine tk 3 109 (bz 11 255) HT_ HW_ hHeld ?_
                       refine tk 8 114 (bz 11 511) HT_ HW_ hHeld ?_
                       refine on 9 115 (bz 11 1023) HT_ (fun K hK => ?_)
                       refine goes_ Try.func111 (by kernel_rfl) rfl #[.int .u64 (rd x0_4 x10_4),.int .u64 (rd x0_4 (ji53))] (by rfl) rfl rfl (by (try simp only [List.map_toArray,List.map_cons,List.map_nil]);first|done|(simp only [hji53];rfl)|rfl|(simp only [List.length_drop,List.length_take];rfl)) ?_
                       with_reducible refine (cmp_Less_uint64.calls (rd x0_4 x10_4) (rd x0_4 (ji53)) false _ A56.out).mono ?_
                       rintro e w' ⟨rfl,⟨nd,rfl⟩⟩
                       refine ⟨_,rfl,?_⟩
                       refine hK.out _ _ ⟨hHeld.1,hHeld.2⟩ (fun hHeld => ?_)
                       clear hK K
                       refine nm 115 ?_
                       refine pk 10 116 (bz 11 2047) HT_ ?_
                       refine done_ (done_of HT_.out (by kernel_rfl)) ?_
                       try go_wp2
                       (try simp only [← hl0_27,← hl0_4])
                       go_roundg k4
                       case measure => have := HK1.out;have := HJ4.out;have := HJ27.out;have := HK4.out;omega
                       case rel => exact ⟨(x0_4),(x7_4),(wrap64 (x8_1 + 1)),(by first|rfl|(simp;done)|(simp [*];done)),(by first|rfl|(simp;done)|(simp [*];done)),H',⟨by have := HK1.out;have := HJ4.out;have := HJ27.out;have := HK4.out;omega⟩,⟨by (try simp only [hl0_27]);(try simp only [hl0_4]);(with_reducible repeat (first|apply Kd.R_alloc|apply Kd.R_drewN|apply Kd.R_drew));exact HO_0.out⟩,⟨by repeat (first|(with_reducible first|exact HK.out|apply Kept.alloc|apply Kept.drewN|apply Kept.drew)|exact HK.out)⟩,⟨bb HB⟩⟩
                     ·rw [if_neg c55] at H
                      exact absurd H (by simp)
                    ·rw [if_neg c54] at H
                     exact absurd H (by simp)
                   ·rw [if_neg c52] at H
                    exact absurd H (by simp)
                  ·rw [if_neg c51] at H
                   exact absurd H (by simp)
                 ·rw [if_neg c50] at H
                  have c50b0 : decide (x10_4 < a2) = false := decide_eq_false c50
                  clear c50
                  have H' := am H
                  clear H
                  go_wp2
                  (try simp only [← hl0_27,← hl0_4])
                  go_roundg k4
                  case measure => have := HK1.out;have := HJ4.out;have := HJ27.out;have := HK4.out;omega
                  case rel => exact ⟨(x0_4),(x7_4),(wrap64 (x8_1 + 1)),(by first|rfl|(simp;done)|(simp [*];done)),(by first|rfl|(simp;done)|(simp [*];done)),H',⟨by have := HK1.out;have := HJ4.out;have := HJ27.out;have := HK4.out;omega⟩,⟨by (try simp only [hl0_27]);(try simp only [hl0_4]);(with_reducible repeat (first|apply Kd.R_alloc|apply Kd.R_drewN|apply Kd.R_drew));exact HO_0.out⟩,⟨by repeat (first|(with_reducible first|exact HK.out|apply Kept.alloc|apply Kept.drewN|apply Kept.drew)|exact HK.out)⟩,⟨bb HB⟩⟩
              ·rw [if_neg c49] at H
               have c49b0 : decide (2 ≤ (wrap64 (a2 - x7_4))) = false := decide_eq_false c49
               clear c49
               have H' := am H
               clear H
               go_wp2
               (try simp only [← hl0_27])
               go_roundg kj27
               case measure => have := HK1.out;have := HJ4.out;have := HJ27.out;omega
               case rel => exact ⟨(x0_27),(x7_4),(wrap64 (x8_1 + 1)),(by first|rfl|(simp;done)|(simp [*];done)),(by first|rfl|(simp;done)|(simp [*];done)),H',⟨by have := HK1.out;have := HJ4.out;have := HJ27.out;omega⟩,⟨by (try simp only [hl0_27]);(with_reducible repeat (first|apply Kd.R_alloc|apply Kd.R_drewN|apply Kd.R_drew));exact HO_0.out⟩,⟨by repeat (first|(with_reducible first|exact HK.out|apply Kept.alloc|apply Kept.drewN|apply Kept.drew)|exact HK.out)⟩,⟨bb HB⟩⟩
           ·rw [if_neg c25] at H
            exact absurd H (by simp)
          ·rw [if_neg c24] at H
           exact absurd H (by simp)
         ·rw [if_neg c23] at H
          exact absurd H (by simp)
        ·rw [if_neg c22] at H
         exact absurd H (by simp)
   ·rw [if_neg c4] at H
    have c4b0 : decide (x8_1 < 5) = false := decide_eq_false c4
    clear c4
    simp only [Option.some.injEq,Prod.mk.injEq] at H
    obtain ⟨rfl,rfl⟩ := H
    go_wp2
    go_ret
    exact ⟨by first|rfl|(simp [errW_none,errW_some] <;> rfl)|(simp [*,errW_none,errW_some] <;> rfl),by (with_reducible repeat (first|apply Kd.R_alloc|apply Kd.R_drewN|apply Kd.R_drew));exact HO_0.out,by repeat (first|(with_reducible first|exact HB.out|apply below_alloc|apply pw_below_drewN|apply below_drew1)|exact HB.out),by repeat (first|(with_reducible first|exact HK.out|apply Kept.alloc|apply Kept.drewN|apply Kept.drew)|exact HK.out)⟩
mutual
def slices_partitionEqualOrdered_uint64.l0 : Nat → List Int → Int → Int → Int → Option (Int × List Int)
 | 0,_,_,_,_ => none
 | k + 1,x0,x1,x9,x10 => slices_partitionEqualOrdered_uint64.l1 k x0 x1 x9 x10
def slices_partitionEqualOrdered_uint64.j2 : Nat → List Int → Int → Int → Int → Option (Int × List Int)
 | 0,_,_,_,_ => none
 | k + 1,x0,x1,x9,x10 => slices_partitionEqualOrdered_uint64.l2 k x0 x1 x9 x10
def slices_partitionEqualOrdered_uint64.l2 : Nat → List Int → Int → Int → Int → Option (Int × List Int)
 | 0,_,_,_,_ => none
 | k + 1,x0,x1,x9,x10 => if x9 ≤ x10 then (if 0 ≤ x1 then (if x1 < (x0.length : Int) then (if 0 ≤ x10 then (if x10 < (x0.length : Int) then ((cmp_Less_uint64.f (rd x0 x1) (rd x0 x10)).bind fun t303 => (if t303 = true then (slices_partitionEqualOrdered_uint64.l2 k x0 x1 x9 (wrap64 (x10 - 1))) else (if x9 > x10 then (some (x9,x0)) else (if 0 ≤ x9 then (if x9 < (x0.length : Int) then (slices_partitionEqualOrdered_uint64.l0 k ((x0.set (x9 : Int).toNat (rd x0 x10)).set (x10 : Int).toNat (rd x0 x9)) x1 (wrap64 (x9 + 1)) (wrap64 (x10 - 1))) else (none)) else (none))))) else (none)) else (none)) else (none)) else (none)) else (if x9 > x10 then (some (x9,x0)) else (if 0 ≤ x10 then (if x10 < (x0.length : Int) then (if 0 ≤ x9 then (if x9 < (x0.length : Int) then (slices_partitionEqualOrdered_uint64.l0 k ((x0.set (x9 : Int).toNat (rd x0 x10)).set (x10 : Int).toNat (rd x0 x9)) x1 (wrap64 (x9 + 1)) (wrap64 (x10 - 1))) else (none)) else (none)) else (none)) else (none)))
def slices_partitionEqualOrdered_uint64.l1 : Nat → List Int → Int → Int → Int → Option (Int × List Int)
 | 0,_,_,_,_ => none
 | k + 1,x0,x1,x9,x10 => if x9 ≤ x10 then (if 0 ≤ x1 then (if x1 < (x0.length : Int) then (if 0 ≤ x9 then (if x9 < (x0.length : Int) then ((cmp_Less_uint64.f (rd x0 x1) (rd x0 x9)).bind fun t300 => (if t300 = true then (slices_partitionEqualOrdered_uint64.j2 k x0 x1 x9 x10) else (slices_partitionEqualOrdered_uint64.l1 k x0 x1 (wrap64 (x9 + 1)) x10))) else (none)) else (none)) else (none)) else (none)) else (slices_partitionEqualOrdered_uint64.j2 k x0 x1 x9 x10)
end
def slices_partitionEqualOrdered_uint64.f (k : Nat) (l0 : List Int) (a1 : Int) (a2 : Int) (a3 : Int) : Option (Int × List Int) := if 0 ≤ a3 then (if a3 < (l0.length : Int) then (if 0 ≤ a1 then (if a1 < (l0.length : Int) then (slices_partitionEqualOrdered_uint64.l0 k ((l0.set (a1 : Int).toNat (rd l0 a3)).set (a3 : Int).toNat (rd l0 a1)) a1 (wrap64 (a1 + 1)) (wrap64 (a2 - 1))) else (none)) else (none)) else (none)) else (none)
def slices_partitionEqualOrdered_uint64.T1 : Bool × List (List Nat × List Nat) := (true,[([],[]),([],[]),([],[]),([],[]),([],[]),([],[]),([4,5],[4,5]),([6],[6]),([],[]),([],[]),([8,9],[8,9]),([10],[10]),([0,1,0,1,4,5,6,7,11],[0,1]),([12,7,0,1,4,5,6,7,11],[7,12]),([2,3,0,1,2,3,4,5,6,7,8,9,10,11,12,13],[2,3]),([14,11,13,0,1,2,3,4,5,6,7,8,9,10,11,12,13],[11,14])])
def slices_partitionEqualOrdered_uint64.B1 : List Nat := [0,0,0,0,0,0,48,112,0,0,768,1792,4083,8179,16383,32767]
theorem slices_partitionEqualOrdered_uint64.tab1 : rtab .any (opsOf Try.f112 1) = slices_partitionEqualOrdered_uint64.T1 := by kernel_rfl
theorem slices_partitionEqualOrdered_uint64.bits1 : waitsOk slices_partitionEqualOrdered_uint64.T1.2 slices_partitionEqualOrdered_uint64.B1 = true := by kernel_rfl
def slices_partitionEqualOrdered_uint64.T3 : Bool × List (List Nat × List Nat) := (true,[([],[]),([],[]),([0,1],[0,1]),([2],[2]),([3],[3]),([3],[3]),([4,5,3],[3,4,5]),([6,3],[3,6]),([3],[3]),([3],[3]),([8,9,3],[3,8,9]),([10,3],[3,10]),([7,11,3,3],[3,7,11]),([12,3],[3,12]),([3,13],[3,13])])
def slices_partitionEqualOrdered_uint64.B3 : List Nat := [0,0,3,7,15,15,63,127,15,15,783,1807,4095,8191,16383]
theorem slices_partitionEqualOrdered_uint64.tab3 : rtab .any (opsOf Try.f112 3) = slices_partitionEqualOrdered_uint64.T3 := by kernel_rfl
theorem slices_partitionEqualOrdered_uint64.bits3 : waitsOk slices_partitionEqualOrdered_uint64.T3.2 slices_partitionEqualOrdered_uint64.B3 = true := by kernel_rfl
def slices_partitionEqualOrdered_uint64.T5 : Bool × List (List Nat × List Nat) := (true,[([],[]),([],[]),([0,1],[0,1]),([2],[2]),([3],[3]),([3],[3]),([4,5,3],[3,4,5]),([6,3],[3,6]),([3],[3]),([3],[3]),([8,9,3],[3,8,9]),([10,3],[3,10]),([7,11,3,3],[3,7,11]),([3,12],[3,12])])
def slices_partitionEqualOrdered_uint64.B5 : List Nat := [0,0,3,7,15,15,63,127,15,15,783,1807,4095,8191]
theorem slices_partitionEqualOrdered_uint64.tab5 : rtab .any (opsOf Try.f112 5) = slices_partitionEqualOrdered_uint64.T5 := by kernel_rfl
theorem slices_partitionEqualOrdered_uint64.bits5 : waitsOk slices_partitionEqualOrdered_uint64.T5.2 slices_partitionEqualOrdered_uint64.B5 = true := by kernel_rfl
def slices_partitionEqualOrdered_uint64.T8 : Bool × List (List Nat × List Nat) := (true,[([],[]),([],[]),([],[]),([],[]),([],[]),([],[]),([4,5],[4,5]),([6],[6]),([],[]),([],[]),([8,9],[8,9]),([10],[10]),([0,1,0,1,4,5,6,7,11],[0,1]),([12,7,0,1,4,5,6,7,11],[7,12]),([2,3,0,1,2,3,4,5,6,7,8,9,10,11,12,13],[2,3]),([14,11,13,0,1,2,3,4,5,6,7,8,9,10,11,12,13],[11,14])])
def slices_partitionEqualOrdered_uint64.B8 : List Nat := [0,0,0,0,0,0,48,112,0,0,768,1792,4083,8179,16383,32767]
theorem slices_partitionEqualOrdered_uint64.tab8 : rtab .any (opsOf Try.f112 8) = slices_partitionEqualOrdered_uint64.T8 := by kernel_rfl
theorem slices_partitionEqualOrdered_uint64.bits8 : waitsOk slices_partitionEqualOrdered_uint64.T8.2 slices_partitionEqualOrdered_uint64.B8 = true := by kernel_rfl
set_option maxHeartbeats 8000000 in
set_option maxRecDepth 100000 in
theorem slices_partitionEqualOrdered_uint64.calls (k : Nat) (P0_ : Nat → Prop) (u9000_ : Value) (l0 : List Int) (a1 : Int) (a2 : Int) (a3 : Int) (r1 : Int) (r2 : List Int) (w0 w : World) (hB : Below w0.heap.size w0 w) (ho0 : Kd.R (Kd.int .u64) 22 w w0.heap.size P0_ u9000_ l0) (h : slices_partitionEqualOrdered_uint64.f k l0 a1 a2 a3 = some (r1,r2)) :
  Calls Try.prog 112 #[u9000_,.int .i64 a1,.int .i64 a2,.int .i64 a3] w fun e w' => e = .returned (.int .i64 r1) ∧ Kd.R (Kd.int .u64) 22 w' w0.heap.size (fun k_ => (P0_ k_ ∨ w.heap.size ≤ k_)) u9000_ r2 ∧ Below w0.heap.size w0 w' ∧ Kept w w' (fun k_ => P0_ k_) := by
 have HO0 := am (show Kd.R (Kd.int .u64) 22 w w0.heap.size (fun k_ => (P0_ k_ ∨ w.heap.size ≤ k_)) u9000_ l0 from Kd.R_mono ho0 (fun k_ hk => (.inl hk)))
 have HK := am (Kept.refl w (fun k_ => P0_ k_))
 have HW0 := am hB.size
 have HB := am hB
 clear hB
 have H : (if 0 ≤ a3 then (if a3 < (l0.length : Int) then (if 0 ≤ a1 then (if a1 < (l0.length : Int) then (slices_partitionEqualOrdered_uint64.l0 k ((l0.set (a1 : Int).toNat (rd l0 a3)).set (a3 : Int).toNat (rd l0 a1)) a1 (wrap64 (a1 + 1)) (wrap64 (a2 - 1))) else (none)) else (none)) else (none)) else (none)) = some (r1,r2) := h
 clear h
 by_cases c5 : 0 ≤ a3
 ·rw [if_pos c5] at H
  have c5b0 : decide (0 ≤ a3) = true := decide_eq_true c5
  clear c5
  by_cases c6 : a3 < (l0.length : Int)
  ·rw [if_pos c6] at H
   have c6b0 : decide (a3 < (l0.length : Int)) = true := decide_eq_true c6
   clear c6
   by_cases c7 : 0 ≤ a1
   ·rw [if_pos c7] at H
    have c7b0 : decide (0 ≤ a1) = true := decide_eq_true c7
    clear c7
    by_cases c8 : a1 < (l0.length : Int)
    ·rw [if_pos c8] at H
     have c8b0 : decide (a1 < (l0.length : Int)) = true := decide_eq_true c8
     clear c8
     obtain ⟨y296,hy296⟩ : ∃ y_ : List Int,y_ = (l0.set (a1 : Int).toNat (rd l0 a3)) := ⟨_,rfl⟩
     replace H : (slices_partitionEqualOrdered_uint64.l0 k (y296.set (a3 : Int).toNat (rd l0 a1)) a1 (wrap64 (a1 + 1)) (wrap64 (a2 - 1))) = some (r1,r2) := by first|(rw [hy296];with_reducible exact H)|(have H2_ := (Option.bind_some _ _).symm.trans H;rw [hy296];with_reducible exact H2_)|(have H2_ := (Option.bind_some _ _).symm.trans H;with_reducible exact H2_)|with_reducible exact H|(rw [hy296];exact H)|exact H
     have Ny296 := am hy296
     clear hy296
     obtain ⟨y297,hy297⟩ : ∃ y_ : List Int,y_ = (y296.set (a3 : Int).toNat (rd l0 a1)) := ⟨_,rfl⟩
     replace H : (slices_partitionEqualOrdered_uint64.l0 k y297 a1 (wrap64 (a1 + 1)) (wrap64 (a2 - 1))) = some (r1,r2) := by first|(rw [hy297];with_reducible exact H)|(have H2_ := (Option.bind_some _ _).symm.trans H;rw [hy297];with_reducible exact H2_)|(have H2_ := (Option.bind_some _ _).symm.trans H;with_reducible exact H2_)|with_reducible exact H|(rw [hy297];exact H)|exact H
     have Ny297 := am hy297
     clear hy297
     have H' := am H
     clear H
     go_enter Try.func112,Try.ntmps112
     try go_wp2
     have n0_ := am (Kd.R_drew HO0.out)
     have n1_ := am (Kept.drew HK.out)
     have n2_ := am (below_drew1 HB.out)
     clear HO0
     clear HK
     clear HB
     have HO0 := n0_
     have HK := n1_
     have HB := n2_
     clear n0_ n1_ n2_
     obtain ⟨Ao12,co12,eo12⟩ := Kd.R_slice HO0.out
     (first|subst eo12|(injection eo12 with f1_ f2_ f3_;have f4_ := f1_.symm;have f5_ := f3_.symm;clear f1_ f2_ f3_;subst f4_;subst f5_))
     have p294 : 0 ≤ (a3 : Int) := od
     have q294 : a3 < (l0.length : Int) := od
     obtain ⟨ad294,e294,hx294_0⟩ := Kd.at_int (Kd.R_reads' HO0.out).2.2 a3 p294 q294
     cases e294
     replace p294 := eq_true p294
     replace q294 := eq_true q294
     have p295 : 0 ≤ (a1 : Int) := od
     have q295 : a1 < (l0.length : Int) := od
     obtain ⟨ad295,e295,hx295_0⟩ := Kd.at_int (Kd.R_reads' HO0.out).2.2 a1 p295 q295
     obtain rfl : ad294 = ad295 := (by injection e295)
     replace p295 := eq_true p295
     replace q295 := eq_true q295
     have p9 : 0 ≤ (a1 : Int) := od
     have q9 : (a1 : Int) < ((l0.length : Int) : Int) := od
     obtain ⟨go9,co9,eo9,gb9,gl9,cl9,HG9⟩ := Kd.R_form HO0.out (by omega)
     (first|cases eo9|(injection eo9 with ea_ en_ ec_;(first|subst ea_|(injection ea_ with ea_;subst ea_));subst ec_;clear en_))
     have GB9 := am gb9
     have GG9 := am HG9
     clear gb9 gl9 HG9
     have HMgo9 := am (show (P0_ go9 ∨ w.heap.size ≤ go9) from (HO0.out.1 _ rfl))
     (first|simp only [add_plain] at hx294_0|skip)
     (first|simp only [add_plain] at hx295_0|skip)
     obtain ⟨hx9_0,hf9_0⟩ := Kd.R_celln 0 HO0.out (a1 : Int) p9 q9
     replace p9 := eq_true p9
     replace q9 := eq_true q9
     have HP13 := Kd.R_putn HO0.out (a1 : Int) (rd l0 a3)
     rw [← Ny296.out] at HP13
     have HQ13 := am HP13
     clear HP13
     have p10 : 0 ≤ (a3 : Int) := od
     have q10 : (a3 : Int) < ((l0.length : Int) : Int) := od
     obtain ⟨hx10_0,hf10_0⟩ := Kd.R_celln 0 HQ13.out (a3 : Int) p10 q10
     replace p10 := eq_true p10
     replace q10 := eq_true q10
     have HP14 := Kd.R_putn HQ13.out (a3 : Int) (rd l0 a1)
     rw [← Ny297.out] at HP14
     have HQ14 := am HP14
     clear HP14
     refine start_ (n := 16) (S := fun w' => w'.cell? ⟨go9,(a3).toNat,none⟩ = some (.int .u64 (rd l0 a3)) ∧ w'.cell? ⟨go9,(a1).toNat,none⟩ = some (.int .u64 (rd l0 a1))) (ds := [13,15]) (bz 16 0) (by kernel_rfl) rfl rfl ⟨hx294_0,hx295_0⟩ (fun hHeld => ?_);refine with_tabW slices_partitionEqualOrdered_uint64.tab1 slices_partitionEqualOrdered_uint64.bits1 (fun HT_ HW_ => ?_)
     generalize w.drew = w11 at HO0 HK HB GG9 HQ13 HQ14 hf10_0 hf9_0 hx10_0 hx294_0 hx295_0 hx9_0 hHeld ⊢
     refine pk 0 11 (bz 16 1) HT_ ?_
     refine pk 1 12 (bz 16 3) HT_ ?_
     refine pk 2 13 (bz 16 7) HT_ ?_
     refine pk 3 14 (bz 16 15) HT_ ?_
     refine pk 4 15 (bz 16 31) HT_ ?_
     refine pk 5 16 (bz 16 63) HT_ ?_
     refine pk 6 17 (bz 16 127) HT_ ?_
     refine pk 8 19 (bz 16 383) HT_ ?_
     refine pk 9 20 (bz 16 895) HT_ ?_
     refine pk 10 21 (bz 16 1919) HT_ ?_
     refine tk 7 18 (bz 16 2047) HT_ HW_ hHeld ?_
     refine tk 11 22 (bz 16 4095) HT_ HW_ hHeld ?_
     refine pk 12 23 (bz 16 8191) HT_ ?_
     refine last_ (i := 13) (N := none) (bz 16 16383) rfl rfl (one_of HT_.out (by kernel_rfl)) (by decide) (fun K hK => ?_)
     refine skip_ (w1 := ?_) (by rfl) rfl ?_ ?_
     rotate_left
     ·go_simp
      rfl
     refine hK.out _ _ ?_
     clear hK K
     refine pk 14 24 (bz 16 32767) HT_ ?_
     refine last_ (i := 15) (N := none) (bz 16 65535) rfl rfl (one_of HT_.out (by kernel_rfl)) (by decide) (fun K hK => ?_)
     refine skip_ (w1 := ?_) (by rfl) rfl ?_ ?_
     rotate_left
     ·go_simp
      rfl
     refine hK.out _ _ ?_
     clear hK K
     refine done_ (done_of HT_.out (by kernel_rfl)) ?_
     try go_wp2
     go_loopg [9,10] k (fun kq v9 v10 w' => ∃ (x0_1 : List Int) (x9_1 : Int) (x10_1 : Int),v9 = .int .i64 x9_1 ∧ v10 = .int .i64 x10_1 ∧ Aside0 (slices_partitionEqualOrdered_uint64.l0 kq x0_1 a1 x9_1 x10_1 = some (r1,r2)) ∧ Aside0 (kq ≤ k) ∧ Aside0 (Kd.R (Kd.int .u64) 22 w' w0.heap.size (fun k_ => (P0_ k_ ∨ w.heap.size ≤ k_)) (.slice (some ⟨go9,0,none⟩) l0.length co12) x0_1) ∧ Aside0 (Kept w w' (fun k_ => P0_ k_)) ∧ Aside0 (Below w0.heap.size w0 w'))
     case atStart => exact ⟨(y297),(wrap64 (a1 + 1)),(wrap64 (a2 - 1)),(by first|rfl|(simp;done)|(simp [*];done)),(by first|rfl|(simp;done)|(simp [*];done)),H',⟨Nat.le_refl _⟩,⟨by (with_reducible repeat (first|apply Kd.R_alloc|apply Kd.R_drewN|apply Kd.R_drew));exact HQ14.out⟩,⟨by repeat (first|(with_reducible first|exact HK.out|apply Kept.alloc|apply Kept.drewN|apply Kept.drew|refine Kept.setCell ?_ HMgo9.out _|refine Kept.setCell ?_ HMgo9.out _)|exact HK.out)⟩,⟨by repeat (first|(with_reducible first|exact HB.out|apply below_alloc|apply pw_below_drewN|apply below_drew1|refine below_set ?_ GB9.out|refine below_set ?_ GB9.out)|exact HB.out)⟩⟩
     case round =>
      clear H'
      try clear c1
      try clear p1
      try clear q1
      try clear hx1
      try clear p2
      try clear q2
      try clear hx2
      try clear c5
      try clear c5b0
      try clear c6
      try clear c6b0
      try clear p6
      try clear c7
      try clear c7b0
      try clear c8
      try clear c8b0
      try clear p9
      try clear q9
      try clear hx9
      try clear hf9
      try clear p10
      try clear q10
      try clear hx10
      try clear hf10
      try clear c11
      try clear hx10_0
      try clear hx294_0
      try clear hx295_0
      try clear hx9_0
      try clear p10
      try clear p294
      try clear p295
      try clear p9
      try clear q10
      try clear q294
      try clear q295
      try clear q9
      obtain ⟨x0_1,x9_1,x10_1,rfl,rfl,HA,HK1,HO_0,HK,HB⟩ := hrel
      have hl0_1 := (Kd.R_reads' HO_0.out).1
      rw [hl0_1] at HO_0
      (try simp only [hl0_1])
      cases gk with
      | zero => exact absurd HA.out (by simp [slices_partitionEqualOrdered_uint64.l0])
      | succ k1 =>
       have H := HA.out
       clear HA
       simp only [slices_partitionEqualOrdered_uint64.l0] at H
       have HC15 := am H
       clear H
       go_upto_block 2 with (fail)
       go_cut [9] (fun v9 wc => ∃ (kq : Nat) (x9_14 : Int),v9 = .int .i64 x9_14 ∧ Aside0 (slices_partitionEqualOrdered_uint64.j2 kq x0_1 a1 x9_14 x10_1 = some (r1,r2)) ∧ Aside0 (kq ≤ k1) ∧ Aside0 (Kd.R (Kd.int .u64) 22 wc w0.heap.size (fun k_ => (P0_ k_ ∨ w.heap.size ≤ k_)) (.slice (some ⟨go9,0,none⟩) x0_1.length co12) x0_1) ∧ Aside0 (Kept w wc (fun k_ => P0_ k_)) ∧ Aside0 (Below w0.heap.size w0 wc))
       case first =>
        have H := HC15.out
        clear HC15
        have H' := am H
        clear H
        go_wp2
        go_loopg [9] k1 (fun kq v9 w' => ∃ (x9_2 : Int),v9 = .int .i64 x9_2 ∧ Aside0 (slices_partitionEqualOrdered_uint64.l1 kq x0_1 a1 x9_2 x10_1 = some (r1,r2)) ∧ Aside0 (kq ≤ k1) ∧ Aside0 (Kd.R (Kd.int .u64) 22 w' w0.heap.size (fun k_ => (P0_ k_ ∨ w.heap.size ≤ k_)) (.slice (some ⟨go9,0,none⟩) x0_1.length co12) x0_1) ∧ Aside0 (Kept w w' (fun k_ => P0_ k_)) ∧ Aside0 (Below w0.heap.size w0 w'))
        case atStart => exact ⟨(x9_1),(by first|rfl|(simp;done)|(simp [*];done)),H',⟨Nat.le_refl _⟩,⟨by (try simp only [hl0_1]);(with_reducible repeat (first|apply Kd.R_alloc|apply Kd.R_drewN|apply Kd.R_drew));exact HO_0.out⟩,⟨by repeat (first|(with_reducible first|exact HK.out|apply Kept.alloc|apply Kept.drewN|apply Kept.drew)|exact HK.out)⟩,⟨bb HB⟩⟩
        case round =>
         clear H'
         try clear c1
         try clear p1
         try clear q1
         try clear hx1
         try clear p2
         try clear q2
         try clear hx2
         try clear c5
         try clear c5b0
         try clear c6
         try clear c6b0
         try clear p6
         try clear c7
         try clear c7b0
         try clear c8
         try clear c8b0
         try clear p9
         try clear q9
         try clear hx9
         try clear hf9
         try clear p10
         try clear q10
         try clear hx10
         try clear hf10
         try clear c11
         try clear hx10_0
         try clear hx294_0
         try clear hx295_0
         try clear hx9_0
         try clear p1
         try clear p10
         try clear p2
         try clear p294
         try clear p295
         try clear p6
         try clear p9
         try clear q1
         try clear q10
         try clear q2
         try clear q294
         try clear q295
         try clear q9
         obtain ⟨x9_2,rfl,HA,HK2,HO_0,HK,HB⟩ := hrel
         cases gk with
         | zero => exact absurd HA.out (by simp [slices_partitionEqualOrdered_uint64.l1])
         | succ k2 =>
          have H := HA.out
          clear HA
          simp only [slices_partitionEqualOrdered_uint64.l1] at H
          by_cases c16 : x9_2 ≤ x10_1
          ·rw [if_pos c16] at H
           have c16b0 : decide (x9_2 ≤ x10_1) = true := decide_eq_true c16
           clear c16
           (first|rw [c16b0]|(simp only [i64_w,i32_w];rw [c16b0])|skip)
           by_cases c17 : 0 ≤ a1
           ·rw [if_pos c17] at H
            have c17b0 : decide (0 ≤ a1) = true := decide_eq_true c17
            clear c17
            by_cases c18 : a1 < (x0_1.length : Int)
            ·rw [if_pos c18] at H
             have c18b0 : decide (a1 < (x0_1.length : Int)) = true := decide_eq_true c18
             clear c18
             by_cases c19 : 0 ≤ x9_2
             ·rw [if_pos c19] at H
              have c19b0 : decide (0 ≤ x9_2) = true := decide_eq_true c19
              clear c19
              by_cases c20 : x9_2 < (x0_1.length : Int)
              ·rw [if_pos c20] at H
               have c20b0 : decide (x9_2 < (x0_1.length : Int)) = true := decide_eq_true c20
               clear c20
               replace H := Option.bind_eq_some_iff.mp H
               obtain ⟨t300,A210,H⟩ := H
               try dsimp only at H
               have A21 := am A210
               clear A210
               by_cases c22 : t300 = true
               ·subst c22
                rw [if_pos rfl] at H
                have H' := am H
                clear H
                try go_wp2
                have n0_ := am (Kd.R_drew HO_0.out)
                have n1_ := am (Kept.drew HK.out)
                have n2_ := am (below_drew1 HB.out)
                clear HO_0
                clear HK
                clear HB
                have HO_0 := n0_
                have HK := n1_
                have HB := n2_
                clear n0_ n1_ n2_
                have p298 : 0 ≤ (a1 : Int) := od
                have q298 : a1 < (x0_1.length : Int) := od
                obtain ⟨ad298,e298,hx298_0⟩ := Kd.at_int (Kd.R_reads' HO_0.out).2.2 a1 p298 q298
                obtain rfl : (⟨go9,0,none⟩ : Addr) = ad298 := (by injection e298)
                (first|simp only [add_plain] at hx298_0|simp only [add_at] at hx298_0|simp only [Addr.add,Nat.zero_add] at hx298_0|skip)
                replace p298 := eq_true p298
                replace q298 := eq_true q298
                have p299 : 0 ≤ (x9_2 : Int) := od
                have q299 : x9_2 < (x0_1.length : Int) := od
                obtain ⟨ad299,e299,hx299_0⟩ := Kd.at_int (Kd.R_reads' HO_0.out).2.2 x9_2 p299 q299
                obtain rfl : (⟨go9,0,none⟩ : Addr) = ad299 := (by injection e299)
                (first|simp only [add_plain] at hx299_0|simp only [add_at] at hx299_0|simp only [Addr.add,Nat.zero_add] at hx299_0|skip)
                replace p299 := eq_true p299
                replace q299 := eq_true q299
                refine start_ (n := 15) (S := fun w' => w'.cell? ⟨go9,(a1).toNat,none⟩ = some (.int .u64 (rd x0_1 a1)) ∧ w'.cell? ⟨go9,(x9_2).toNat,none⟩ = some (.int .u64 (rd x0_1 x9_2))) (ds := []) (bz 15 0) (by kernel_rfl) rfl rfl ⟨hx298_0,hx299_0⟩ (fun hHeld => ?_);refine with_tabW slices_partitionEqualOrdered_uint64.tab3 slices_partitionEqualOrdered_uint64.bits3 (fun HT_ HW_ => ?_)
                generalize wr.drew = w23 at HO_0 HK HB hx298_0 hx299_0 hHeld ⊢
                refine pk 0 29 (bz 15 1) HT_ ?_
                refine pk 1 30 (bz 15 3) HT_ ?_
                refine pk 2 31 (bz 15 7) HT_ ?_
                refine pk 3 32 (bz 15 15) HT_ ?_
                refine pk 4 33 (bz 15 31) HT_ ?_
                refine pk 5 34 (bz 15 63) HT_ ?_
                refine pk 6 35 (bz 15 127) HT_ ?_
                refine pk 8 37 (bz 15 383) HT_ ?_
                refine pk 9 38 (bz 15 895) HT_ ?_
                refine pk 10 39 (bz 15 1919) HT_ ?_
                refine tk 7 36 (bz 15 2047) HT_ HW_ hHeld ?_
                refine tk 11 40 (bz 15 4095) HT_ HW_ hHeld ?_
                refine on 12 41 (bz 15 8191) HT_ (fun K hK => ?_)
                refine goes_ Try.func111 (by kernel_rfl) rfl #[.int .u64 (rd x0_1 a1),.int .u64 (rd x0_1 x9_2)] (by rfl) rfl rfl (by (try simp only [List.map_toArray,List.map_cons,List.map_nil]);first|done|rfl|(simp only [List.length_drop,List.length_take];rfl)) ?_
                with_reducible refine (cmp_Less_uint64.calls (rd x0_1 a1) (rd x0_1 x9_2) true _ A21.out).mono ?_
                rintro e w' ⟨rfl,⟨nd,rfl⟩⟩
                refine ⟨_,rfl,?_⟩
                refine hK.out _ _ ⟨hHeld.1,hHeld.2⟩ (fun hHeld => ?_)
                clear hK K
                refine nm 41 ?_
                refine pk 13 42 (bz 15 16383) HT_ ?_
                refine pk 14 43 (bz 15 32767) HT_ ?_
                refine done_ (done_of HT_.out (by kernel_rfl)) ?_
                try go_wp2
                go_meet
                case rel => exact ⟨_,(x9_2),(by first|rfl|(simp;done)|(simp [*];done)),H',⟨by have := HK1.out;have := HK2.out;first|omega|exact Nat.le_refl _⟩,⟨by (try simp only [hl0_1]);(with_reducible repeat (first|apply Kd.R_alloc|apply Kd.R_drewN|apply Kd.R_drew));exact HO_0.out⟩,⟨by repeat (first|(with_reducible first|exact HK.out|apply Kept.alloc|apply Kept.drewN|apply Kept.drew)|exact HK.out)⟩,⟨bb HB⟩⟩
               ·replace c22 := Bool.eq_false_iff.mpr c22
                subst c22
                rw [if_neg (show ¬ (false = true) by decide)] at H
                have H' := am H
                clear H
                try go_wp2
                have n0_ := am (Kd.R_drew HO_0.out)
                have n1_ := am (Kept.drew HK.out)
                have n2_ := am (below_drew1 HB.out)
                clear HO_0
                clear HK
                clear HB
                have HO_0 := n0_
                have HK := n1_
                have HB := n2_
                clear n0_ n1_ n2_
                have p298 : 0 ≤ (a1 : Int) := od
                have q298 : a1 < (x0_1.length : Int) := od
                obtain ⟨ad298,e298,hx298_0⟩ := Kd.at_int (Kd.R_reads' HO_0.out).2.2 a1 p298 q298
                obtain rfl : (⟨go9,0,none⟩ : Addr) = ad298 := (by injection e298)
                (first|simp only [add_plain] at hx298_0|simp only [add_at] at hx298_0|simp only [Addr.add,Nat.zero_add] at hx298_0|skip)
                replace p298 := eq_true p298
                replace q298 := eq_true q298
                have p299 : 0 ≤ (x9_2 : Int) := od
                have q299 : x9_2 < (x0_1.length : Int) := od
                obtain ⟨ad299,e299,hx299_0⟩ := Kd.at_int (Kd.R_reads' HO_0.out).2.2 x9_2 p299 q299
                obtain rfl : (⟨go9,0,none⟩ : Addr) = ad299 := (by injection e299)
                (first|simp only [add_plain] at hx299_0|simp only [add_at] at hx299_0|simp only [Addr.add,Nat.zero_add] at hx299_0|skip)
                replace p299 := eq_true p299
                replace q299 := eq_true q299
                refine start_ (n := 15) (S := fun w' => w'.cell? ⟨go9,(a1).toNat,none⟩ = some (.int .u64 (rd x0_1 a1)) ∧ w'.cell? ⟨go9,(x9_2).toNat,none⟩ = some (.int .u64 (rd x0_1 x9_2))) (ds := []) (bz 15 0) (by kernel_rfl) rfl rfl ⟨hx298_0,hx299_0⟩ (fun hHeld => ?_);refine with_tabW slices_partitionEqualOrdered_uint64.tab3 slices_partitionEqualOrdered_uint64.bits3 (fun HT_ HW_ => ?_)
                generalize wr.drew = w24 at HO_0 HK HB hx298_0 hx299_0 hHeld ⊢
                refine pk 0 29 (bz 15 1) HT_ ?_
                refine pk 1 30 (bz 15 3) HT_ ?_
                refine pk 2 31 (bz 15 7) HT_ ?_
                refine pk 3 32 (bz 15 15) HT_ ?_
                refine pk 4 33 (bz 15 31) HT_ ?_
                refine pk 5 34 (bz 15 63) HT_ ?_
                refine pk 6 35 (bz 15 127) HT_ ?_
                refine pk 8 37 (bz 15 383) HT_ ?_
                refine pk 9 38 (bz 15 895) HT_ ?_
                refine pk 10 39 (bz 15 1919) HT_ ?_
                refine tk 7 36 (bz 15 2047) HT_ HW_ hHeld ?_
                refine tk 11 40 (bz 15 4095) HT_ HW_ hHeld ?_
                refine on 12 41 (bz 15 8191) HT_ (fun K hK => ?_)
                refine goes_ Try.func111 (by kernel_rfl) rfl #[.int .u64 (rd x0_1 a1),.int .u64 (rd x0_1 x9_2)] (by rfl) rfl rfl (by (try simp only [List.map_toArray,List.map_cons,List.map_nil]);first|done|rfl|(simp only [List.length_drop,List.length_take];rfl)) ?_
                with_reducible refine (cmp_Less_uint64.calls (rd x0_1 a1) (rd x0_1 x9_2) false _ A21.out).mono ?_
                rintro e w' ⟨rfl,⟨nd,rfl⟩⟩
                refine ⟨_,rfl,?_⟩
                refine hK.out _ _ ⟨hHeld.1,hHeld.2⟩ (fun hHeld => ?_)
                clear hK K
                refine nm 41 ?_
                refine pk 13 42 (bz 15 16383) HT_ ?_
                refine pk 14 43 (bz 15 32767) HT_ ?_
                refine done_ (done_of HT_.out (by kernel_rfl)) ?_
                try go_wp2
                go_roundg k2
                case measure => have := HK1.out;have := HK2.out;omega
                case rel => exact ⟨(wrap64 (x9_2 + 1)),(by first|rfl|(simp;done)|(simp [*];done)),H',⟨by have := HK1.out;have := HK2.out;omega⟩,⟨by (try simp only [hl0_1]);(with_reducible repeat (first|apply Kd.R_alloc|apply Kd.R_drewN|apply Kd.R_drew));exact HO_0.out⟩,⟨by repeat (first|(with_reducible first|exact HK.out|apply Kept.alloc|apply Kept.drewN|apply Kept.drew)|exact HK.out)⟩,⟨bb HB⟩⟩
              ·rw [if_neg c20] at H
               exact absurd H (by simp)
             ·rw [if_neg c19] at H
              exact absurd H (by simp)
            ·rw [if_neg c18] at H
             exact absurd H (by simp)
           ·rw [if_neg c17] at H
            exact absurd H (by simp)
          ·rw [if_neg c16] at H
           have c16b0 : decide (x9_2 ≤ x10_1) = false := decide_eq_false c16
           clear c16
           (first|rw [c16b0]|(simp only [i64_w,i32_w];rw [c16b0])|skip)
           have H' := am H
           clear H
           try go_wp2
           have n0_ := am (Kd.R_drew HO_0.out)
           have n1_ := am (Kept.drew HK.out)
           have n2_ := am (below_drew1 HB.out)
           clear HO_0
           clear HK
           clear HB
           have HO_0 := n0_
           have HK := n1_
           have HB := n2_
           clear n0_ n1_ n2_
           refine start_ (n := 15) (S := fun w' => True) (ds := []) (bz 15 0) (by kernel_rfl) rfl rfl trivial (fun hHeld => ?_);refine with_tabW slices_partitionEqualOrdered_uint64.tab3 slices_partitionEqualOrdered_uint64.bits3 (fun HT_ HW_ => ?_)
           generalize wr.drew = w25 at HO_0 HK HB hHeld ⊢
           refine pk 0 29 (bz 15 1) HT_ ?_
           refine pk 1 30 (bz 15 3) HT_ ?_
           refine pk 2 31 (bz 15 7) HT_ ?_
           refine pk 3 32 (bz 15 15) HT_ ?_
           refine pz 4 33 (bz 15 31) HT_ ?_
           refine pz 5 34 (bz 15 63) HT_ ?_
           refine pz 6 35 (bz 15 127) HT_ ?_
           refine pz 7 36 (bz 15 255) HT_ ?_
           refine pz 8 37 (bz 15 511) HT_ ?_
           refine pz 9 38 (bz 15 1023) HT_ ?_
           refine pz 10 39 (bz 15 2047) HT_ ?_
           refine pz 11 40 (bz 15 4095) HT_ ?_
           refine pz 12 41 (bz 15 8191) HT_ ?_
           refine pz 13 42 (bz 15 16383) HT_ ?_
           refine pk 14 43 (bz 15 32767) HT_ ?_
           refine done_ (done_of HT_.out (by kernel_rfl)) ?_
           try go_wp2
           go_meet
           case rel => exact ⟨_,(x9_2),(by first|rfl|(simp;done)|(simp [*];done)),H',⟨by have := HK1.out;have := HK2.out;first|omega|exact Nat.le_refl _⟩,⟨by (try simp only [hl0_1]);(with_reducible repeat (first|apply Kd.R_alloc|apply Kd.R_drewN|apply Kd.R_drew));exact HO_0.out⟩,⟨by repeat (first|(with_reducible first|exact HK.out|apply Kept.alloc|apply Kept.drewN|apply Kept.drew)|exact HK.out)⟩,⟨bb HB⟩⟩
       case rest =>
        clear HC15
        try clear c1
        try clear p1
        try clear q1
        try clear hx1
        try clear c2
        try clear p2
        try clear q2
        try clear hx2
        try clear c5
        try clear c5b0
        try clear c6
        try clear c6b0
        try clear p6
        try clear c7
        try clear c7b0
        try clear c8
        try clear c8b0
        try clear p9
        try clear q9
        try clear hx9
        try clear hf9
        try clear p10
        try clear q10
        try clear hx10
        try clear hf10
        try clear c11
        try clear c16
        try clear c16b0
        try clear c17
        try clear c17b0
        try clear c18
        try clear c18b0
        try clear c19
        try clear c19b0
        try clear c20
        try clear c20b0
        try clear c22
        try clear hx10_0
        try clear hx294_0
        try clear hx295_0
        try clear hx298_0
        try clear hx299_0
        try clear hx9_0
        try clear p1
        try clear p10
        try clear p2
        try clear p294
        try clear p295
        try clear p298
        try clear p299
        try clear p6
        try clear p9
        try clear q1
        try clear q10
        try clear q2
        try clear q294
        try clear q295
        try clear q298
        try clear q299
        try clear q9
        obtain ⟨kq,x9_14,rfl,HA,HJ14,HO_0,HK,HB⟩ := hcut
        cases kq with
        | zero => exact absurd HA.out (by simp [slices_partitionEqualOrdered_uint64.j2])
        | succ kj14 =>
         have H := HA.out
         clear HA
         simp only [slices_partitionEqualOrdered_uint64.j2] at H
         have H' := am H
         clear H
         go_wp2
         go_loopg [10] kj14 (fun kq v10 w' => ∃ (x10_3 : Int),v10 = .int .i64 x10_3 ∧ Aside0 (slices_partitionEqualOrdered_uint64.l2 kq x0_1 a1 x9_14 x10_3 = some (r1,r2)) ∧ Aside0 (kq ≤ kj14) ∧ Aside0 (Kd.R (Kd.int .u64) 22 w' w0.heap.size (fun k_ => (P0_ k_ ∨ w.heap.size ≤ k_)) (.slice (some ⟨go9,0,none⟩) x0_1.length co12) x0_1) ∧ Aside0 (Kept w w' (fun k_ => P0_ k_)) ∧ Aside0 (Below w0.heap.size w0 w'))
         case atStart => exact ⟨(x10_1),(by first|rfl|(simp;done)|(simp [*];done)),H',⟨Nat.le_refl _⟩,⟨by (try simp only [hl0_1]);(with_reducible repeat (first|apply Kd.R_alloc|apply Kd.R_drewN|apply Kd.R_drew));exact HO_0.out⟩,⟨by repeat (first|(with_reducible first|exact HK.out|apply Kept.alloc|apply Kept.drewN|apply Kept.drew)|exact HK.out)⟩,⟨bb HB⟩⟩
         case round =>
          clear H'
          try clear c1
          try clear p1
          try clear q1
          try clear hx1
          try clear c2
          try clear p2
          try clear q2
          try clear hx2
          try clear c5
          try clear c5b0
          try clear c6
          try clear c6b0
          try clear p6
          try clear c7
          try clear c7b0
          try clear c8
          try clear c8b0
          try clear p9
          try clear q9
          try clear hx9
          try clear hf9
          try clear p10
          try clear q10
          try clear hx10
          try clear hf10
          try clear c11
          try clear c16
          try clear c16b0
          try clear c17
          try clear c17b0
          try clear c18
          try clear c18b0
          try clear c19
          try clear c19b0
          try clear c20
          try clear c20b0
          try clear c22
          try clear hx10_0
          try clear hx294_0
          try clear hx295_0
          try clear hx298_0
          try clear hx299_0
          try clear hx9_0
          try clear p1
          try clear p10
          try clear p2
          try clear p294
          try clear p295
          try clear p298
          try clear p299
          try clear p6
          try clear p9
          try clear q1
          try clear q10
          try clear q2
          try clear q294
          try clear q295
          try clear q298
          try clear q299
          try clear q9
          obtain ⟨x10_3,rfl,HA,HK3,HO_0,HK,HB⟩ := hrel
          cases gk with
          | zero => exact absurd HA.out (by simp [slices_partitionEqualOrdered_uint64.l2])
          | succ k3 =>
           have H := HA.out
           clear HA
           simp only [slices_partitionEqualOrdered_uint64.l2] at H
           by_cases c26 : x9_14 ≤ x10_3
           ·rw [if_pos c26] at H
            have c26b0 : decide (x9_14 ≤ x10_3) = true := decide_eq_true c26
            clear c26
            by_cases c27 : 0 ≤ a1
            ·rw [if_pos c27] at H
             have c27b0 : decide (0 ≤ a1) = true := decide_eq_true c27
             clear c27
             by_cases c28 : a1 < (x0_1.length : Int)
             ·rw [if_pos c28] at H
              have c28b0 : decide (a1 < (x0_1.length : Int)) = true := decide_eq_true c28
              clear c28
              by_cases c29 : 0 ≤ x10_3
              ·rw [if_pos c29] at H
               have c29b0 : decide (0 ≤ x10_3) = true := decide_eq_true c29
               clear c29
               by_cases c30 : x10_3 < (x0_1.length : Int)
               ·rw [if_pos c30] at H
                have c30b0 : decide (x10_3 < (x0_1.length : Int)) = true := decide_eq_true c30
                clear c30
                replace H := Option.bind_eq_some_iff.mp H
                obtain ⟨t303,A310,H⟩ := H
                try dsimp only at H
                have A31 := am A310
                clear A310
                by_cases c32 : t303 = true
                ·subst c32
                 rw [if_pos rfl] at H
                 have H' := am H
                 clear H
                 try go_wp2
                 have n0_ := am (Kd.R_drew HO_0.out)
                 have n1_ := am (Kept.drew HK.out)
                 have n2_ := am (below_drew1 HB.out)
                 clear HO_0
                 clear HK
                 clear HB
                 have HO_0 := n0_
                 have HK := n1_
                 have HB := n2_
                 clear n0_ n1_ n2_
                 have p301 : 0 ≤ (a1 : Int) := od
                 have q301 : a1 < (x0_1.length : Int) := od
                 obtain ⟨ad301,e301,hx301_0⟩ := Kd.at_int (Kd.R_reads' HO_0.out).2.2 a1 p301 q301
                 obtain rfl : (⟨go9,0,none⟩ : Addr) = ad301 := (by injection e301)
                 (first|simp only [add_plain] at hx301_0|simp only [add_at] at hx301_0|simp only [Addr.add,Nat.zero_add] at hx301_0|skip)
                 replace p301 := eq_true p301
                 replace q301 := eq_true q301
                 have p302 : 0 ≤ (x10_3 : Int) := od
                 have q302 : x10_3 < (x0_1.length : Int) := od
                 obtain ⟨ad302,e302,hx302_0⟩ := Kd.at_int (Kd.R_reads' HO_0.out).2.2 x10_3 p302 q302
                 obtain rfl : (⟨go9,0,none⟩ : Addr) = ad302 := (by injection e302)
                 (first|simp only [add_plain] at hx302_0|simp only [add_at] at hx302_0|simp only [Addr.add,Nat.zero_add] at hx302_0|skip)
                 replace p302 := eq_true p302
                 replace q302 := eq_true q302
                 refine start_ (n := 14) (S := fun w' => w'.cell? ⟨go9,(a1).toNat,none⟩ = some (.int .u64 (rd x0_1 a1)) ∧ w'.cell? ⟨go9,(x10_3).toNat,none⟩ = some (.int .u64 (rd x0_1 x10_3))) (ds := []) (bz 14 0) (by kernel_rfl) rfl rfl ⟨hx301_0,hx302_0⟩ (fun hHeld => ?_);refine with_tabW slices_partitionEqualOrdered_uint64.tab5 slices_partitionEqualOrdered_uint64.bits5 (fun HT_ HW_ => ?_)
                 generalize wr.drew = w33 at HO_0 HK HB hx301_0 hx302_0 hHeld ⊢
                 refine pk 0 46 (bz 14 1) HT_ ?_
                 refine pk 1 47 (bz 14 3) HT_ ?_
                 refine pk 2 48 (bz 14 7) HT_ ?_
                 refine pk 3 49 (bz 14 15) HT_ ?_
                 refine pk 4 50 (bz 14 31) HT_ ?_
                 refine pk 5 51 (bz 14 63) HT_ ?_
                 refine pk 6 52 (bz 14 127) HT_ ?_
                 refine pk 8 54 (bz 14 383) HT_ ?_
                 refine pk 9 55 (bz 14 895) HT_ ?_
                 refine pk 10 56 (bz 14 1919) HT_ ?_
                 refine tk 7 53 (bz 14 2047) HT_ HW_ hHeld ?_
                 refine tk 11 57 (bz 14 4095) HT_ HW_ hHeld ?_
                 refine on 12 58 (bz 14 8191) HT_ (fun K hK => ?_)
                 refine goes_ Try.func111 (by kernel_rfl) rfl #[.int .u64 (rd x0_1 a1),.int .u64 (rd x0_1 x10_3)] (by rfl) rfl rfl (by (try simp only [List.map_toArray,List.map_cons,List.map_nil]);first|done|rfl|(simp only [List.length_drop,List.length_take];rfl)) ?_
                 with_reducible refine (cmp_Less_uint64.calls (rd x0_1 a1) (rd x0_1 x10_3) true _ A31.out).mono ?_
                 rintro e w' ⟨rfl,⟨nd,rfl⟩⟩
                 refine ⟨_,rfl,?_⟩
                 refine hK.out _ _ ⟨hHeld.1,hHeld.2⟩ (fun hHeld => ?_)
                 clear hK K
                 refine nm 58 ?_
                 refine pk 13 59 (bz 14 16383) HT_ ?_
                 refine done_ (done_of HT_.out (by kernel_rfl)) ?_
                 try go_wp2
                 go_roundg k3
                 case measure => have := HK1.out;have := HJ14.out;have := HK3.out;omega
                 case rel => exact ⟨(wrap64 (x10_3 - 1)),(by first|rfl|(simp;done)|(simp [*];done)),H',⟨by have := HK1.out;have := HJ14.out;have := HK3.out;omega⟩,⟨by (try simp only [hl0_1]);(with_reducible repeat (first|apply Kd.R_alloc|apply Kd.R_drewN|apply Kd.R_drew));exact HO_0.out⟩,⟨by repeat (first|(with_reducible first|exact HK.out|apply Kept.alloc|apply Kept.drewN|apply Kept.drew)|exact HK.out)⟩,⟨bb HB⟩⟩
                ·replace c32 := Bool.eq_false_iff.mpr c32
                 subst c32
                 rw [if_neg (show ¬ (false = true) by decide)] at H
                 by_cases c34 : x9_14 > x10_3
                 ·rw [if_pos c34] at H
                  have c34b0 : decide (x10_3 < x9_14) = true := decide_eq_true c34
                  clear c34
                  simp only [Option.some.injEq,Prod.mk.injEq] at H
                  obtain ⟨rfl,rfl⟩ := H
                  try go_wp2
                  have n0_ := am (Kd.R_drew HO_0.out)
                  have n1_ := am (Kept.drew HK.out)
                  have n2_ := am (below_drew1 HB.out)
                  clear HO_0
                  clear HK
                  clear HB
                  have HO_0 := n0_
                  have HK := n1_
                  have HB := n2_
                  clear n0_ n1_ n2_
                  have p301 : 0 ≤ (a1 : Int) := od
                  have q301 : a1 < (x0_1.length : Int) := od
                  obtain ⟨ad301,e301,hx301_0⟩ := Kd.at_int (Kd.R_reads' HO_0.out).2.2 a1 p301 q301
                  obtain rfl : (⟨go9,0,none⟩ : Addr) = ad301 := (by injection e301)
                  (first|simp only [add_plain] at hx301_0|simp only [add_at] at hx301_0|simp only [Addr.add,Nat.zero_add] at hx301_0|skip)
                  replace p301 := eq_true p301
                  replace q301 := eq_true q301
                  have p302 : 0 ≤ (x10_3 : Int) := od
                  have q302 : x10_3 < (x0_1.length : Int) := od
                  obtain ⟨ad302,e302,hx302_0⟩ := Kd.at_int (Kd.R_reads' HO_0.out).2.2 x10_3 p302 q302
                  obtain rfl : (⟨go9,0,none⟩ : Addr) = ad302 := (by injection e302)
                  (first|simp only [add_plain] at hx302_0|simp only [add_at] at hx302_0|simp only [Addr.add,Nat.zero_add] at hx302_0|skip)
                  replace p302 := eq_true p302
                  replace q302 := eq_true q302
                  refine start_ (n := 14) (S := fun w' => w'.cell? ⟨go9,(a1).toNat,none⟩ = some (.int .u64 (rd x0_1 a1)) ∧ w'.cell? ⟨go9,(x10_3).toNat,none⟩ = some (.int .u64 (rd x0_1 x10_3))) (ds := []) (bz 14 0) (by kernel_rfl) rfl rfl ⟨hx301_0,hx302_0⟩ (fun hHeld => ?_);refine with_tabW slices_partitionEqualOrdered_uint64.tab5 slices_partitionEqualOrdered_uint64.bits5 (fun HT_ HW_ => ?_)
                  generalize wr.drew = w35 at HO_0 HK HB hx301_0 hx302_0 hHeld ⊢
                  refine pk 0 46 (bz 14 1) HT_ ?_
                  refine pk 1 47 (bz 14 3) HT_ ?_
                  refine pk 2 48 (bz 14 7) HT_ ?_
                  refine pk 3 49 (bz 14 15) HT_ ?_
                  refine pk 4 50 (bz 14 31) HT_ ?_
                  refine pk 5 51 (bz 14 63) HT_ ?_
                  refine pk 6 52 (bz 14 127) HT_ ?_
                  refine pk 8 54 (bz 14 383) HT_ ?_
                  refine pk 9 55 (bz 14 895) HT_ ?_
                  refine pk 10 56 (bz 14 1919) HT_ ?_
                  refine tk 7 53 (bz 14 2047) HT_ HW_ hHeld ?_
                  refine tk 11 57 (bz 14 4095) HT_ HW_ hHeld ?_
                  refine on 12 58 (bz 14 8191) HT_ (fun K hK => ?_)
                  refine goes_ Try.func111 (by kernel_rfl) rfl #[.int .u64 (rd x0_1 a1),.int .u64 (rd x0_1 x10_3)] (by rfl) rfl rfl (by (try simp only [List.map_toArray,List.map_cons,List.map_nil]);first|done|rfl|(simp only [List.length_drop,List.length_take];rfl)) ?_
                  with_reducible refine (cmp_Less_uint64.calls (rd x0_1 a1) (rd x0_1 x10_3) false _ A31.out).mono ?_
                  rintro e w' ⟨rfl,⟨nd,rfl⟩⟩
                  refine ⟨_,rfl,?_⟩
                  refine hK.out _ _ ⟨hHeld.1,hHeld.2⟩ (fun hHeld => ?_)
                  clear hK K
                  refine nm 58 ?_
                  refine pk 13 59 (bz 14 16383) HT_ ?_
                  refine done_ (done_of HT_.out (by kernel_rfl)) ?_
                  try go_wp2
                  go_ret
                  exact ⟨by first|rfl|(simp [errW_none,errW_some] <;> rfl)|(simp [*,errW_none,errW_some] <;> rfl),(by first|exact (rr HO_0)|(simp only [hl0_1];exact (rr HO_0))),by repeat (first|(with_reducible first|exact HB.out|apply below_alloc|apply pw_below_drewN|apply below_drew1)|exact HB.out),by repeat (first|(with_reducible first|exact HK.out|apply Kept.alloc|apply Kept.drewN|apply Kept.drew)|exact HK.out)⟩
                 ·rw [if_neg c34] at H
                  have c34b0 : decide (x10_3 < x9_14) = false := decide_eq_false c34
                  clear c34
                  by_cases c36 : 0 ≤ x9_14
                  ·rw [if_pos c36] at H
                   have c36b0 : decide (0 ≤ x9_14) = true := decide_eq_true c36
                   clear c36
                   by_cases c37 : x9_14 < (x0_1.length : Int)
                   ·rw [if_pos c37] at H
                    have c37b0 : decide (x9_14 < (x0_1.length : Int)) = true := decide_eq_true c37
                    clear c37
                    obtain ⟨y306,hy306⟩ : ∃ y_ : List Int,y_ = (x0_1.set (x9_14 : Int).toNat (rd x0_1 x10_3)) := ⟨_,rfl⟩
                    replace H : (slices_partitionEqualOrdered_uint64.l0 k3 (y306.set (x10_3 : Int).toNat (rd x0_1 x9_14)) a1 (wrap64 (x9_14 + 1)) (wrap64 (x10_3 - 1))) = some (r1,r2) := by first|(rw [hy306];with_reducible exact H)|(have H2_ := (Option.bind_some _ _).symm.trans H;rw [hy306];with_reducible exact H2_)|(have H2_ := (Option.bind_some _ _).symm.trans H;with_reducible exact H2_)|with_reducible exact H|(rw [hy306];exact H)|exact H
                    have Ny306 := am hy306
                    clear hy306
                    obtain ⟨y307,hy307⟩ : ∃ y_ : List Int,y_ = (y306.set (x10_3 : Int).toNat (rd x0_1 x9_14)) := ⟨_,rfl⟩
                    replace H : (slices_partitionEqualOrdered_uint64.l0 k3 y307 a1 (wrap64 (x9_14 + 1)) (wrap64 (x10_3 - 1))) = some (r1,r2) := by first|(rw [hy307];with_reducible exact H)|(have H2_ := (Option.bind_some _ _).symm.trans H;rw [hy307];with_reducible exact H2_)|(have H2_ := (Option.bind_some _ _).symm.trans H;with_reducible exact H2_)|with_reducible exact H|(rw [hy307];exact H)|exact H
                    have Ny307 := am hy307
                    clear hy307
                    have H' := am H
                    clear H
                    try go_wp2
                    have n0_ := am (Kd.R_drew HO_0.out)
                    have n1_ := am (Kept.drew HK.out)
                    have n2_ := am (below_drew1 HB.out)
                    clear HO_0
                    clear HK
                    clear HB
                    have HO_0 := n0_
                    have HK := n1_
                    have HB := n2_
                    clear n0_ n1_ n2_
                    have p301 : 0 ≤ (a1 : Int) := od
                    have q301 : a1 < (x0_1.length : Int) := od
                    obtain ⟨ad301,e301,hx301_0⟩ := Kd.at_int (Kd.R_reads' HO_0.out).2.2 a1 p301 q301
                    obtain rfl : (⟨go9,0,none⟩ : Addr) = ad301 := (by injection e301)
                    (first|simp only [add_plain] at hx301_0|simp only [add_at] at hx301_0|simp only [Addr.add,Nat.zero_add] at hx301_0|skip)
                    replace p301 := eq_true p301
                    replace q301 := eq_true q301
                    have p302 : 0 ≤ (x10_3 : Int) := od
                    have q302 : x10_3 < (x0_1.length : Int) := od
                    obtain ⟨ad302,e302,hx302_0⟩ := Kd.at_int (Kd.R_reads' HO_0.out).2.2 x10_3 p302 q302
                    obtain rfl : (⟨go9,0,none⟩ : Addr) = ad302 := (by injection e302)
                    (first|simp only [add_plain] at hx302_0|simp only [add_at] at hx302_0|simp only [Addr.add,Nat.zero_add] at hx302_0|skip)
                    replace p302 := eq_true p302
                    replace q302 := eq_true q302
                    refine start_ (n := 14) (S := fun w' => w'.cell? ⟨go9,(a1).toNat,none⟩ = some (.int .u64 (rd x0_1 a1)) ∧ w'.cell? ⟨go9,(x10_3).toNat,none⟩ = some (.int .u64 (rd x0_1 x10_3))) (ds := []) (bz 14 0) (by kernel_rfl) rfl rfl ⟨hx301_0,hx302_0⟩ (fun hHeld => ?_);refine with_tabW slices_partitionEqualOrdered_uint64.tab5 slices_partitionEqualOrdered_uint64.bits5 (fun HT_ HW_ => ?_)
                    generalize wr.drew = w40 at HO_0 HK HB hx301_0 hx302_0 hHeld ⊢
                    refine pk 0 46 (bz 14 1) HT_ ?_
                    refine pk 1 47 (bz 14 3) HT_ ?_
                    refine pk 2 48 (bz 14 7) HT_ ?_
                    refine pk 3 49 (bz 14 15) HT_ ?_
                    refine pk 4 50 (bz 14 31) HT_ ?_
                    refine pk 5 51 (bz 14 63) HT_ ?_
                    refine pk 6 52 (bz 14 127) HT_ ?_
                    refine pk 8 54 (bz 14 383) HT_ ?_
                    refine pk 9 55 (bz 14 895) HT_ ?_
                    refine pk 10 56 (bz 14 1919) HT_ ?_
                    refine tk 7 53 (bz 14 2047) HT_ HW_ hHeld ?_
                    refine tk 11 57 (bz 14 4095) HT_ HW_ hHeld ?_
                    refine on 12 58 (bz 14 8191) HT_ (fun K hK => ?_)
                    refine goes_ Try.func111 (by kernel_rfl) rfl #[.int .u64 (rd x0_1 a1),.int .u64 (rd x0_1 x10_3)] (by rfl) rfl rfl (by (try simp only [List.map_toArray,List.map_cons,List.map_nil]);first|done|rfl|(simp only [List.length_drop,List.length_take];rfl)) ?_
                    with_reducible refine (cmp_Less_uint64.calls (rd x0_1 a1) (rd x0_1 x10_3) false _ A31.out).mono ?_
                    rintro e w' ⟨rfl,⟨nd,rfl⟩⟩
                    refine ⟨_,rfl,?_⟩
                    refine hK.out _ _ ⟨hHeld.1,hHeld.2⟩ (fun hHeld => ?_)
                    clear hK K
                    refine nm 58 ?_
                    refine pk 13 59 (bz 14 16383) HT_ ?_
                    refine done_ (done_of HT_.out (by kernel_rfl)) ?_
                    try go_wp2
                    (try (rw [drewN_self w40];generalize hq_ : World.drewN w40 _ = w40;have n0_ : Aside0 (Kd.R (Kd.int .u64) 22 w40 w0.heap.size (fun k_ => (P0_ k_ ∨ w.heap.size ≤ k_)) (.slice (some ⟨go9,0,none⟩) x0_1.length co12) x0_1) := ⟨by rw [← hq_];exact (rr HO_0)⟩;have n1_ : Aside0 (Kept w w40 (fun k_ => P0_ k_)) := ⟨by rw [← hq_];exact (by repeat (first|(with_reducible first|exact HK.out|apply Kept.alloc|apply Kept.drewN|apply Kept.drew)|exact HK.out))⟩;have n2_ : Aside0 (Below w0.heap.size w0 w40) := ⟨by rw [← hq_];exact (bb HB)⟩;clear HO_0 HK HB hq_;have HO_0 := n0_;have HK := n1_;have HB := n2_;clear n0_ n1_ n2_))
                    have n0_ := am (Kd.R_drew HO_0.out)
                    have n1_ := am (Kept.drew HK.out)
                    have n2_ := am (below_drew1 HB.out)
                    clear HO_0
                    clear HK
                    clear HB
                    have HO_0 := n0_
                    have HK := n1_
                    have HB := n2_
                    clear n0_ n1_ n2_
                    have p304 : 0 ≤ (x10_3 : Int) := od
                    have q304 : x10_3 < (x0_1.length : Int) := od
                    obtain ⟨ad304,e304,hx304_0⟩ := Kd.at_int (Kd.R_reads' HO_0.out).2.2 x10_3 p304 q304
                    obtain rfl : (⟨go9,0,none⟩ : Addr) = ad304 := (by injection e304)
                    (first|simp only [add_plain] at hx304_0|simp only [add_at] at hx304_0|simp only [Addr.add,Nat.zero_add] at hx304_0|skip)
                    replace p304 := eq_true p304
                    replace q304 := eq_true q304
                    have p305 : 0 ≤ (x9_14 : Int) := od
                    have q305 : x9_14 < (x0_1.length : Int) := od
                    obtain ⟨ad305,e305,hx305_0⟩ := Kd.at_int (Kd.R_reads' HO_0.out).2.2 x9_14 p305 q305
                    obtain rfl : (⟨go9,0,none⟩ : Addr) = ad305 := (by injection e305)
                    (first|simp only [add_plain] at hx305_0|simp only [add_at] at hx305_0|simp only [Addr.add,Nat.zero_add] at hx305_0|skip)
                    replace p305 := eq_true p305
                    replace q305 := eq_true q305
                    have p38 : 0 ≤ (x9_14 : Int) := od
                    have q38 : (x9_14 : Int) < ((x0_1.length : Int) : Int) := od
                    obtain ⟨hx38_0,hf38_0⟩ := Kd.R_celln 0 HO_0.out (x9_14 : Int) p38 q38
                    replace p38 := eq_true p38
                    replace q38 := eq_true q38
                    have HP42 := Kd.R_putn HO_0.out (x9_14 : Int) (rd x0_1 x10_3)
                    rw [← Ny306.out] at HP42
                    have HQ42 := am HP42
                    clear HP42
                    have p39 : 0 ≤ (x10_3 : Int) := od
                    have q39 : (x10_3 : Int) < ((x0_1.length : Int) : Int) := od
                    obtain ⟨hx39_0,hf39_0⟩ := Kd.R_celln 0 HQ42.out (x10_3 : Int) p39 q39
                    replace p39 := eq_true p39
                    replace q39 := eq_true q39
                    have HP43 := Kd.R_putn HQ42.out (x10_3 : Int) (rd x0_1 x9_14)
                    rw [← Ny307.out] at HP43
                    have HQ43 := am HP43
                    clear HP43
                    refine start_ (n := 16) (S := fun w' => w'.cell? ⟨go9,(x10_3).toNat,none⟩ = some (.int .u64 (rd x0_1 x10_3)) ∧ w'.cell? ⟨go9,(x9_14).toNat,none⟩ = some (.int .u64 (rd x0_1 x9_14))) (ds := [13,15]) (bz 16 0) (by kernel_rfl) rfl rfl ⟨hx304_0,hx305_0⟩ (fun hHeld => ?_);refine with_tabW slices_partitionEqualOrdered_uint64.tab8 slices_partitionEqualOrdered_uint64.bits8 (fun HT_ HW_ => ?_)
                    generalize w40.drew = w41 at HO_0 HK HB HQ42 HQ43 hf38_0 hf39_0 hx304_0 hx305_0 hx38_0 hx39_0 hHeld ⊢
                    refine pk 0 65 (bz 16 1) HT_ ?_
                    refine pk 1 66 (bz 16 3) HT_ ?_
                    refine pk 2 67 (bz 16 7) HT_ ?_
                    refine pk 3 68 (bz 16 15) HT_ ?_
                    refine pk 4 69 (bz 16 31) HT_ ?_
                    refine pk 5 70 (bz 16 63) HT_ ?_
                    refine pk 6 71 (bz 16 127) HT_ ?_
                    refine pk 8 73 (bz 16 383) HT_ ?_
                    refine pk 9 74 (bz 16 895) HT_ ?_
                    refine pk 10 75 (bz 16 1919) HT_ ?_
                    refine tk 7 72 (bz 16 2047) HT_ HW_ hHeld ?_
                    refine tk 11 76 (bz 16 4095) HT_ HW_ hHeld ?_
                    refine pk 12 77 (bz 16 8191) HT_ ?_
                    refine last_ (i := 13) (N := none) (bz 16 16383) rfl rfl (one_of HT_.out (by kernel_rfl)) (by decide) (fun K hK => ?_)
                    refine skip_ (w1 := ?_) (by rfl) rfl ?_ ?_
                    rotate_left
                    ·go_simp
                     rfl
                    refine hK.out _ _ ?_
                    clear hK K
                    refine pk 14 78 (bz 16 32767) HT_ ?_
                    refine last_ (i := 15) (N := none) (bz 16 65535) rfl rfl (one_of HT_.out (by kernel_rfl)) (by decide) (fun K hK => ?_)
                    refine skip_ (w1 := ?_) (by rfl) rfl ?_ ?_
                    rotate_left
                    ·go_simp
                     rfl
                    refine hK.out _ _ ?_
                    clear hK K
                    refine done_ (done_of HT_.out (by kernel_rfl)) ?_
                    try go_wp2
                    (try simp only [← hl0_1])
                    go_roundg k3
                    case measure => have := HK1.out;have := HJ14.out;have := HK3.out;omega
                    case rel => exact ⟨(y307),(wrap64 (x9_14 + 1)),(wrap64 (x10_3 - 1)),(by first|rfl|(simp;done)|(simp [*];done)),(by first|rfl|(simp;done)|(simp [*];done)),H',⟨by have := HK1.out;have := HJ14.out;have := HK3.out;omega⟩,⟨by (try simp only [hl0_1]);(with_reducible repeat (first|apply Kd.R_alloc|apply Kd.R_drewN|apply Kd.R_drew));exact HQ43.out⟩,⟨by repeat (first|(with_reducible first|exact HK.out|apply Kept.alloc|apply Kept.drewN|apply Kept.drew|refine Kept.setCell ?_ HMgo9.out _|refine Kept.setCell ?_ HMgo9.out _)|exact HK.out)⟩,⟨by repeat (first|(with_reducible first|exact HB.out|apply below_alloc|apply pw_below_drewN|apply below_drew1|refine below_set ?_ GB9.out|refine below_set ?_ GB9.out)|exact HB.out)⟩⟩
                   ·rw [if_neg c37] at H
                    exact absurd H (by simp)
                  ·rw [if_neg c36] at H
                   exact absurd H (by simp)
               ·rw [if_neg c30] at H
                exact absurd H (by simp)
              ·rw [if_neg c29] at H
               exact absurd H (by simp)
             ·rw [if_neg c28] at H
              exact absurd H (by simp)
            ·rw [if_neg c27] at H
             exact absurd H (by simp)
           ·rw [if_neg c26] at H
            have c26b0 : decide (x9_14 ≤ x10_3) = false := decide_eq_false c26
            clear c26
            by_cases c44 : x9_14 > x10_3
            ·rw [if_pos c44] at H
             have c44b0 : decide (x10_3 < x9_14) = true := decide_eq_true c44
             clear c44
             simp only [Option.some.injEq,Prod.mk.injEq] at H
             obtain ⟨rfl,rfl⟩ := H
             try go_wp2
             have n0_ := am (Kd.R_drew HO_0.out)
             have n1_ := am (Kept.drew HK.out)
             have n2_ := am (below_drew1 HB.out)
             clear HO_0
             clear HK
             clear HB
             have HO_0 := n0_
             have HK := n1_
             have HB := n2_
             clear n0_ n1_ n2_
             refine start_ (n := 14) (S := fun w' => True) (ds := []) (bz 14 0) (by kernel_rfl) rfl rfl trivial (fun hHeld => ?_);refine with_tabW slices_partitionEqualOrdered_uint64.tab5 slices_partitionEqualOrdered_uint64.bits5 (fun HT_ HW_ => ?_)
             generalize wr.drew = w45 at HO_0 HK HB hHeld ⊢
             refine pk 0 46 (bz 14 1) HT_ ?_
             refine pk 1 47 (bz 14 3) HT_ ?_
             refine pk 2 48 (bz 14 7) HT_ ?_
             refine pk 3 49 (bz 14 15) HT_ ?_
             refine pz 4 50 (bz 14 31) HT_ ?_
             refine pz 5 51 (bz 14 63) HT_ ?_
             refine pz 6 52 (bz 14 127) HT_ ?_
             refine pz 7 53 (bz 14 255) HT_ ?_
             refine pz 8 54 (bz 14 511) HT_ ?_
             refine pz 9 55 (bz 14 1023) HT_ ?_
             refine pz 10 56 (bz 14 2047) HT_ ?_
             refine pz 11 57 (bz 14 4095) HT_ ?_
             refine pz 12 58 (bz 14 8191) HT_ ?_
             refine pk 13 59 (bz 14 16383) HT_ ?_
             refine done_ (done_of HT_.out (by kernel_rfl)) ?_
             try go_wp2
             go_ret
             exact ⟨by first|rfl|(simp [errW_none,errW_some] <;> rfl)|(simp [*,errW_none,errW_some] <;> rfl),(by first|exact (rr HO_0)|(simp only [hl0_1];exact (rr HO_0))),by repeat (first|(with_reducible first|exact HB.out|apply below_alloc|apply pw_below_drewN|apply below_drew1)|exact HB.out),by repeat (first|(with_reducible first|exact HK.out|apply Kept.alloc|apply Kept.drewN|apply Kept.drew)|exact HK.out)⟩
            ·rw [if_neg c44] at H
             have c44b0 : decide (x10_3 < x9_14) = false := decide_eq_false c44
             clear c44
             by_cases c46 : 0 ≤ x10_3
             ·rw [if_pos c46] at H
              have c46b0 : decide (0 ≤ x10_3) = true := decide_eq_true c46
              clear c46
              by_cases c47 : x10_3 < (x0_1.length : Int)
              ·rw [if_pos c47] at H
               have c47b0 : decide (x10_3 < (x0_1.length : Int)) = true := decide_eq_true c47
               clear c47
               by_cases c48 : 0 ≤ x9_14
               ·rw [if_pos c48] at H
                have c48b0 : decide (0 ≤ x9_14) = true := decide_eq_true c48
                clear c48
                by_cases c49 : x9_14 < (x0_1.length : Int)
                ·rw [if_pos c49] at H
                 have c49b0 : decide (x9_14 < (x0_1.length : Int)) = true := decide_eq_true c49
                 clear c49
                 obtain ⟨y310,hy310⟩ : ∃ y_ : List Int,y_ = (x0_1.set (x9_14 : Int).toNat (rd x0_1 x10_3)) := ⟨_,rfl⟩
                 replace H : (slices_partitionEqualOrdered_uint64.l0 k3 (y310.set (x10_3 : Int).toNat (rd x0_1 x9_14)) a1 (wrap64 (x9_14 + 1)) (wrap64 (x10_3 - 1))) = some (r1,r2) := by first|(rw [hy310];with_reducible exact H)|(have H2_ := (Option.bind_some _ _).symm.trans H;rw [hy310];with_reducible exact H2_)|(have H2_ := (Option.bind_some _ _).symm.trans H;with_reducible exact H2_)|with_reducible exact H|(rw [hy310];exact H)|exact H
                 have Ny310 := am hy310
                 clear hy310
                 obtain ⟨y311,hy311⟩ : ∃ y_ : List Int,y_ = (y310.set (x10_3 : Int).toNat (rd x0_1 x9_14)) := ⟨_,rfl⟩
                 replace H : (slices_partitionEqualOrdered_uint64.l0 k3 y311 a1 (wrap64 (x9_14 + 1)) (wrap64 (x10_3 - 1))) = some (r1,r2) := by first|(rw [hy311];with_reducible exact H)|(have H2_ := (Option.bind_some _ _).symm.trans H;rw [hy311];with_reducible exact H2_)|(have H2_ := (Option.bind_some _ _).symm.trans H;with_reducible exact H2_)|with_reducible exact H|(rw [hy311];exact H)|exact H
                 have Ny311 := am hy311
                 clear hy311
                 have H' := am H
                 clear H
                 try go_wp2
                 have n0_ := am (Kd.R_drew HO_0.out)
                 have n1_ := am (Kept.drew HK.out)
                 have n2_ := am (below_drew1 HB.out)
                 clear HO_0
                 clear HK
                 clear HB
                 have HO_0 := n0_
                 have HK := n1_
                 have HB := n2_
                 clear n0_ n1_ n2_
                 refine start_ (n := 14) (S := fun w' => True) (ds := []) (bz 14 0) (by kernel_rfl) rfl rfl trivial (fun hHeld => ?_);refine with_tabW slices_partitionEqualOrdered_uint64.tab5 slices_partitionEqualOrdered_uint64.bits5 (fun HT_ HW_ => ?_)
                 generalize wr.drew = w52 at HO_0 HK HB hHeld ⊢
                 refine pk 0 46 (bz 14 1) HT_ ?_
                 refine pk 1 47 (bz 14 3) HT_ ?_
                 refine pk 2 48 (bz 14 7) HT_ ?_
                 refine pk 3 49 (bz 14 15) HT_ ?_
                 refine pz 4 50 (bz 14 31) HT_ ?_
                 refine pz 5 51 (bz 14 63) HT_ ?_
                 refine pz 6 52 (bz 14 127) HT_ ?_
                 refine pz 7 53 (bz 14 255) HT_ ?_
                 refine pz 8 54 (bz 14 511) HT_ ?_
                 refine pz 9 55 (bz 14 1023) HT_ ?_
                 refine pz 10 56 (bz 14 2047) HT_ ?_
                 refine pz 11 57 (bz 14 4095) HT_ ?_
                 refine pz 12 58 (bz 14 8191) HT_ ?_
                 refine pk 13 59 (bz 14 16383) HT_ ?_
                 refine done_ (done_of HT_.out (by kernel_rfl)) ?_
                 try go_wp2
                 have n0_ := am (Kd.R_drew HO_0.out)
                 have n1_ := am (Kept.drew HK.out)
                 have n2_ := am (below_drew1 HB.out)
                 clear HO_0
                 clear HK
                 clear HB
                 have HO_0 := n0_
                 have HK := n1_
                 have HB := n2_
                 clear n0_ n1_ n2_
                 have p308 : 0 ≤ (x10_3 : Int) := od
                 have q308 : x10_3 < (x0_1.length : Int) := od
                 obtain ⟨ad308,e308,hx308_0⟩ := Kd.at_int (Kd.R_reads' HO_0.out).2.2 x10_3 p308 q308
                 obtain rfl : (⟨go9,0,none⟩ : Addr) = ad308 := (by injection e308)
                 (first|simp only [add_plain] at hx308_0|simp only [add_at] at hx308_0|simp only [Addr.add,Nat.zero_add] at hx308_0|skip)
                 replace p308 := eq_true p308
                 replace q308 := eq_true q308
                 have p309 : 0 ≤ (x9_14 : Int) := od
                 have q309 : x9_14 < (x0_1.length : Int) := od
                 obtain ⟨ad309,e309,hx309_0⟩ := Kd.at_int (Kd.R_reads' HO_0.out).2.2 x9_14 p309 q309
                 obtain rfl : (⟨go9,0,none⟩ : Addr) = ad309 := (by injection e309)
                 (first|simp only [add_plain] at hx309_0|simp only [add_at] at hx309_0|simp only [Addr.add,Nat.zero_add] at hx309_0|skip)
                 replace p309 := eq_true p309
                 replace q309 := eq_true q309
                 have p50 : 0 ≤ (x9_14 : Int) := od
                 have q50 : (x9_14 : Int) < ((x0_1.length : Int) : Int) := od
                 obtain ⟨hx50_0,hf50_0⟩ := Kd.R_celln 0 HO_0.out (x9_14 : Int) p50 q50
                 replace p50 := eq_true p50
                 replace q50 := eq_true q50
                 have HP54 := Kd.R_putn HO_0.out (x9_14 : Int) (rd x0_1 x10_3)
                 rw [← Ny310.out] at HP54
                 have HQ54 := am HP54
                 clear HP54
                 have p51 : 0 ≤ (x10_3 : Int) := od
                 have q51 : (x10_3 : Int) < ((x0_1.length : Int) : Int) := od
                 obtain ⟨hx51_0,hf51_0⟩ := Kd.R_celln 0 HQ54.out (x10_3 : Int) p51 q51
                 replace p51 := eq_true p51
                 replace q51 := eq_true q51
                 have HP55 := Kd.R_putn HQ54.out (x10_3 : Int) (rd x0_1 x9_14)
                 rw [← Ny311.out] at HP55
                 have HQ55 := am HP55
                 clear HP55
                 refine start_ (n := 16) (S := fun w' => w'.cell? ⟨go9,(x10_3).toNat,none⟩ = some (.int .u64 (rd x0_1 x10_3)) ∧ w'.cell? ⟨go9,(x9_14).toNat,none⟩ = some (.int .u64 (rd x0_1 x9_14))) (ds := [13,15]) (bz 16 0) (by kernel_rfl) rfl rfl ⟨hx308_0,hx309_0⟩ (fun hHeld => ?_);refine with_tabW slices_partitionEqualOrdered_uint64.tab8 slices_partitionEqualOrdered_uint64.bits8 (fun HT_ HW_ => ?_)
                 generalize w52.drew = w53 at HO_0 HK HB HQ54 HQ55 hf50_0 hf51_0 hx308_0 hx309_0 hx50_0 hx51_0 hHeld ⊢
                 refine pk 0 65 (bz 16 1) HT_ ?_
                 refine pk 1 66 (bz 16 3) HT_ ?_
                 refine pk 2 67 (bz 16 7) HT_ ?_
                 refine pk 3 68 (bz 16 15) HT_ ?_
                 refine pk 4 69 (bz 16 31) HT_ ?_
                 refine pk 5 70 (bz 16 63) HT_ ?_
                 refine pk 6 71 (bz 16 127) HT_ ?_
                 refine pk 8 73 (bz 16 383) HT_ ?_
                 refine pk 9 74 (bz 16 895) HT_ ?_
                 refine pk 10 75 (bz 16 1919) HT_ ?_
                 refine tk 7 72 (bz 16 2047) HT_ HW_ hHeld ?_
                 refine tk 11 76 (bz 16 4095) HT_ HW_ hHeld ?_
                 refine pk 12 77 (bz 16 8191) HT_ ?_
                 refine last_ (i := 13) (N := none) (bz 16 16383) rfl rfl (one_of HT_.out (by kernel_rfl)) (by decide) (fun K hK => ?_)
                 refine skip_ (w1 := ?_) (by rfl) rfl ?_ ?_
                 rotate_left
                 ·go_simp
                  rfl
                 refine hK.out _ _ ?_
                 clear hK K
                 refine pk 14 78 (bz 16 32767) HT_ ?_
                 refine last_ (i := 15) (N := none) (bz 16 65535) rfl rfl (one_of HT_.out (by kernel_rfl)) (by decide) (fun K hK => ?_)
                 refine skip_ (w1 := ?_) (by rfl) rfl ?_ ?_
                 rotate_left
                 ·go_simp
                  rfl
                 refine hK.out _ _ ?_
                 clear hK K
                 refine done_ (done_of HT_.out (by kernel_rfl)) ?_
                 try go_wp2
                 (try simp only [← hl0_1])
                 go_roundg k3
                 case measure => have := HK1.out;have := HJ14.out;have := HK3.out;omega
                 case rel => exact ⟨(y311),(wrap64 (x9_14 + 1)),(wrap64 (x10_3 - 1)),(by first|rfl|(simp;done)|(simp [*];done)),(by first|rfl|(simp;done)|(simp [*];done)),H',⟨by have := HK1.out;have := HJ14.out;have := HK3.out;omega⟩,⟨by (try simp only [hl0_1]);(with_reducible repeat (first|apply Kd.R_alloc|apply Kd.R_drewN|apply Kd.R_drew));exact HQ55.out⟩,⟨by repeat (first|(with_reducible first|exact HK.out|apply Kept.alloc|apply Kept.drewN|apply Kept.drew|refine Kept.setCell ?_ HMgo9.out _|refine Kept.setCell ?_ HMgo9.out _)|exact HK.out)⟩,⟨by repeat (first|(with_reducible first|exact HB.out|apply below_alloc|apply pw_below_drewN|apply below_drew1|refine below_set ?_ GB9.out|refine below_set ?_ GB9.out)|exact HB.out)⟩⟩
                ·rw [if_neg c49] at H
                 exact absurd H (by simp)
               ·rw [if_neg c48] at H
                exact absurd H (by simp)
              ·rw [if_neg c47] at H
               exact absurd H (by simp)
             ·rw [if_neg c46] at H
              exact absurd H (by simp)
    ·rw [if_neg c8] at H
     exact absurd H (by simp)
   ·rw [if_neg c7] at H
    exact absurd H (by simp)
  ·rw [if_neg c6] at H
   exact absurd H (by simp)
 ·rw [if_neg c5] at H
  exact absurd H (by simp)
end Go.Proofs.Ytmdoaijkaaaglaa.Pr
end
