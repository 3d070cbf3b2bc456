/- Part 4 of the proof's texts, joined in build order. -/
import Derived.Test.YtejeelpnmdfibaaZComplete1
import Derived.Test.YtejeelpnmdfibaaZComplete3
import Derived.Test.YtejeelpnmdfibaaZComplete0
section
/- Printed by a program of this seat (the kit's printer, with the functions that were proved by hand given to it). What stands here: the functions that the statements reach, as plain functions, and that the Go code computes them. -/
namespace Go.Proofs.Ytejeelpnmdfibaa.Pr
open Go.RowKit Go.Proofs.YtejeelpnmdfibaaW.PrintWords Go.Proofs.YtejeelpnmdfibaaW.PrintLast Go.Proofs.YtejeelpnmdfibaaW.PrintMore
attribute [local go_sem] max2_int min2_int max_two min_two max_three min_three max_four min_four   -- for this text's walks alone
set_option linter.unusedVariables false
set_option linter.unusedSimpArgs false

open Go.Proofs.Ytejeelpnmdfibaa.Hw
/-! ### tapeshift_mover_by: function 44 -/
def tapeshift_mover_by.l0 : Nat → Int → List Int → Int → Int → Int → Int → List Int → Option (List Int)
 | 0,_,_,_,_,_,_,_ => none
 | k + 1,x1,x7,x12,x13,x205000,x205001,x205002 => if x13 < x12 then (if 0 ≤ x13 then (if x13 < (x7.length : Int) then (if x13 < (x205002.length : Int) then ((field_Mul.f k x205000 x1 (rd x205002 x13)).bind fun t210 => ((field_Add.f k x205000 (rd x7 x13) t210).bind fun t211 => (tapeshift_mover_by.l0 k x1 (x7.set (x13 : Int).toNat t211) x12 (wrap64 (x13 + 1)) x205000 x205001 x205002))) else (none)) else (none)) else (none)) else (some x7)
def tapeshift_mover_by.f (k : Nat) (a0_0 : Int) (a0_1 : Int) (l0_2 : List Int) (a1 : Int) (l2 : List Int) : Option (List Int) := (slices_Clone_uint64_uint64.f l2).bind fun t205 => (tapeshift_mover_by.l0 k a1 t205 (t205.length : Int) 0 a0_0 a0_1 l0_2)
theorem tapeshift_mover_by.mono_l : ∀ k, (∀ y0 y1 y2 y3 y4 y5 y6, LeO (tapeshift_mover_by.l0 k y0 y1 y2 y3 y4 y5 y6) (tapeshift_mover_by.l0 (k + 1) y0 y1 y2 y3 y4 y5 y6))
 | 0 => fun _ _ _ _ _ _ _ r h => by simp [tapeshift_mover_by.l0] at h
 | k + 1 => by
  have ih0 := tapeshift_mover_by.mono_l k
  ·intro y0 y1 y2 y3 y4 y5 y6
   unfold tapeshift_mover_by.l0
   repeat' first
   | (with_reducible exact ih0 _ _ _ _ _ _ _)
   | (with_reducible exact field_Add.mono _ _ _ _)
   | (with_reducible exact field_Mul.mono _ _ _ _)
   | (with_reducible exact LeO.refl _)
   | (with_reducible exact LeO.none _)
   | (with_reducible refine LeO.ite ?_ ?_)
   | (with_reducible refine LeO.bind ?_ (fun _ => ?_))
   | exact ih0 _ _ _ _ _ _ _
   | exact field_Add.mono _ _ _ _
   | exact field_Mul.mono _ _ _ _
   | exact LeO.none _
   | refine LeO.ite ?_ ?_
   | refine LeO.bind ?_ (fun _ => ?_)
theorem tapeshift_mover_by.mono : ∀ a0 a1 a2 a3 a4 k, LeO (tapeshift_mover_by.f k a0 a1 a2 a3 a4) (tapeshift_mover_by.f (k + 1) a0 a1 a2 a3 a4) := by
 intro a0 a1 a2 a3 a4 k
 have ih0 := tapeshift_mover_by.mono_l k
 unfold tapeshift_mover_by.f
 repeat' first
   | (with_reducible exact ih0 _ _ _ _ _ _ _)
   | (with_reducible exact field_Add.mono _ _ _ _)
   | (with_reducible exact field_Mul.mono _ _ _ _)
   | (with_reducible exact LeO.refl _)
   | (with_reducible exact LeO.none _)
   | (with_reducible refine LeO.ite ?_ ?_)
   | (with_reducible refine LeO.bind ?_ (fun _ => ?_))
   | exact ih0 _ _ _ _ _ _ _
   | exact field_Add.mono _ _ _ _
   | exact field_Mul.mono _ _ _ _
   | exact LeO.none _
   | refine LeO.ite ?_ ?_
   | refine LeO.bind ?_ (fun _ => ?_)
def tapeshift_mover_by.T5 : Bool × List (List Nat × List Nat) := (true, [([], []), ([], []), ([], []), ([2], [2]), ([], []), ([], []), ([4, 5], [4, 5]), ([6], [6]), ([], []), ([8], [8]), ([], []), ([], []), ([11], [11]), ([], []), ([12, 13], [12, 13]), ([14], [14]), ([9, 10, 15], [9, 10, 15]), ([3, 7, 16, 16], [3, 7, 16]), ([0, 1, 0, 1, 2, 3, 4, 5, 6, 7, 8, 9, 10, 11, 12, 13, 14, 15, 16, 17], [0, 1]), ([18, 17, 17, 0, 1, 2, 3, 4, 5, 6, 7, 8, 9, 10, 11, 12, 13, 14, 15, 16, 17], [17, 18])])
def tapeshift_mover_by.B5 : List Nat := [0, 0, 0, 4, 0, 0, 48, 112, 0, 256, 0, 0, 2048, 0, 14336, 30720, 65280, 131068, 262143, 524287]
theorem tapeshift_mover_by.tab5 : rtab .any (opsOf Try.f44 5) = tapeshift_mover_by.T5 := by kernel_rfl
theorem tapeshift_mover_by.bits5 : waitsOk tapeshift_mover_by.T5.2 tapeshift_mover_by.B5 = true := by kernel_rfl
set_option maxHeartbeats 8000000 in
set_option maxRecDepth 100000 in
theorem tapeshift_mover_by.calls (k : Nat) (a0_0 : Int) (a0_1 : Int) (A0_2 : Option Addr) (c0_2 : Nat) (l0_2 : List Int) (a1 : Int) (A2 : Option Addr) (c2 : Nat) (l2 : List Int) (r : List Int) (w : World) (hr0_2 : Kd.C (Kd.int .u64) w A0_2 l0_2.length l0_2) (hc0_2 : l0_2.length ≤ c0_2) (hr2 : Kd.C (Kd.int .u64) w A2 l2.length l2) (hc2 : l2.length ≤ c2) (h : tapeshift_mover_by.f k a0_0 a0_1 l0_2 a1 l2 = some r) :
  Calls Try.prog 44 #[.agg #[.int .u64 a0_0,.int .i64 a0_1,.slice A0_2 l0_2.length c0_2],.int .u64 a1,.slice A2 l2.length c2] w fun e w' => ∃ v0_ : Value,e = .returned (v0_) ∧ Kd.R (Kd.int .u64) 22 w' w.heap.size (fun _ => True) v0_ r ∧ Below w.heap.size w w' := by
 have hu59 := Try.underlying59
 have HR0_2 := Aside0.mk hr0_2
 have HC0_2 := Aside0.mk hc0_2
 clear hr0_2 hc0_2
 have HR2 := Aside0.mk hr2
 have HC2 := Aside0.mk hc2
 clear hr2 hc2
 have HB := Aside0.mk (Below.refl w.heap.size w)
 have H : ((slices_Clone_uint64_uint64.f l2).bind fun t205 => (tapeshift_mover_by.l0 k a1 t205 (t205.length : Int) 0 a0_0 a0_1 l0_2)) = some r := h
 clear h
 replace H := Option.bind_eq_some_iff.mp H
 obtain ⟨t205,A40,H⟩ := H
 replace H : (tapeshift_mover_by.l0 k a1 t205 (t205.length : Int) 0 a0_0 a0_1 l0_2) = some r := H
 have A4 := Aside0.mk A40
 clear A40
 have H' := Aside0.mk H
 clear H
 go_enter Try.func44,Try.ntmps44
 go_wp2_with (first|((with_reducible refine gate_dst (N := 3) rfl ?_);refine box_event ?hg (N := 3) ?hd (cs := #[.int .u64 a0_0,.int .i64 a0_1,.slice A0_2 l0_2.length c0_2]) (t := 59) ?hr ?_;(case hd => rfl);(case hg => rfl);(case hr => first|(go_simp;done)|(go_simp;rfl));intro gb204 hg w5 hbox hb;have n0_ := Aside0.mk (below_step (by repeat (first|(with_reducible first|exact HB.out|apply below_alloc|apply pw_below_drewN|apply below_drew1)|exact HB.out)) hb);have n1_ := Aside0.mk (hbox);have n2_ := Aside0.mk ((by rw [hg];exact (below_size (by repeat (first|(with_reducible first|exact HB.out|apply below_alloc|apply pw_below_drewN|apply below_drew1)|exact HB.out))) : w.heap.size ≤ gb204));have n3_ := Aside0.mk ((by rw [hg];exact (below_size (by repeat (first|(with_reducible first|exact HB.out|apply below_alloc|apply pw_below_drewN|apply below_drew1)|exact HB.out))) : w.heap.size ≤ gb204));clear HB;have HB := n0_;have BK204 := n1_;have GW204 := n2_;have GE204 := n3_;clear n0_ n1_ n2_ n3_;clear hb hbox hg)|((with_reducible refine gate_callee (f := 73) rfl ?_);refine goesL_ (some 10) rfl rfl Try.func73 (by kernel_rfl) rfl #[.slice A2 l2.length c2] rfl (by (try simp only [List.map_toArray,List.map_cons,List.map_nil]);first|done|rfl|(simp only [List.length_drop,List.length_take];rfl)) ?_;(with_reducible refine (slices_Clone_uint64_uint64.calls _ _ l2 t205 _ ?side1 ?side2 A4.out).mono ?_);(case side1 => repeat (first|exact (Kd.C_below HR2.out HB.out)|(with_reducible refine Kd.C_alloc ?_ _)|(with_reducible refine Kd.C_drewN ?_ _)|(with_reducible refine Kd.C_drew ?_)));(case side2 => exact HC2.out);rintro e w6 ⟨v206,rfl,ho0,hb⟩;refine ⟨_,rfl,?_⟩;have n0_ := Aside0.mk (Kd.R_lower ho0 (below_size (by repeat (first|(with_reducible first|exact HB.out|apply below_alloc|apply pw_below_drewN|apply below_drew1|refine below_set ?_ GE204.out)|exact HB.out))));have n1_ := Aside0.mk (blk_below (g := gb204) (o := .cells #[.int .u64 a0_0,.int .i64 a0_1,.slice A0_2 l0_2.length c0_2] 59 (0,0)) (by (with_reducible repeat (first|refine blk_drewN ?_ _|refine blk_drew ?_|refine blk_alloc ?_ _));exact BK204.out) hb);have n2_ := Aside0.mk (below_step (by repeat (first|(with_reducible first|exact HB.out|apply below_alloc|apply pw_below_drewN|apply below_drew1|refine below_set ?_ GE204.out)|exact HB.out)) hb);clear BK204;clear HB;have HO207 := n0_;have BK204 := n1_;have HB := n2_;clear n0_ n1_ n2_;(try clear hb);(try clear hb2);(try clear hk);(try clear hi);(try clear ho0);obtain ⟨Ao7,co7,eo7⟩ := Kd.R_slice HO207.out;subst eo7))
 go_loopg [13] k (fun kq v13 w' => ∃ (x7_1 : List Int) (x13_1 : Int),v13 = .int .i64 x13_1 ∧ Aside0 (tapeshift_mover_by.l0 kq a1 x7_1 (t205.length : Int) x13_1 a0_0 a0_1 l0_2 = some r) ∧ Aside0 (kq ≤ k) ∧ Aside0 (Kd.R (Kd.int .u64) 22 w' w.heap.size (fun _ => True) (.slice Ao7 t205.length co7) x7_1) ∧ Aside0 (w'.heap[gb204]? = some (.cells #[.int .u64 a0_0,.int .i64 a0_1,(.slice A0_2 l0_2.length c0_2)] 59 (0,0))) ∧ Aside0 (Below w.heap.size w w'))
 case atStart => exact ⟨(t205),(0),(by first|rfl|(simp;done)|(simp [*];done)),H',⟨Nat.le_refl _⟩,⟨by (with_reducible repeat (first|apply Kd.R_alloc|apply Kd.R_drewN|apply Kd.R_drew));exact HO207.out⟩,⟨by (with_reducible repeat (first|refine blk_drewN ?_ _|refine blk_drew ?_|refine blk_alloc ?_ _));exact BK204.out⟩,⟨by repeat (first|(with_reducible first|exact HB.out|apply below_alloc|apply pw_below_drewN|apply below_drew1|refine below_set ?_ GE204.out)|exact HB.out)⟩⟩
 case round =>
  clear H'
  try clear c2
  try clear p2
  try clear c4
  try clear c7
  obtain ⟨x7_1,x13_1,rfl,HA,HK1,HO_7,BK204,HB⟩ := hrel
  have hl7_1 := (Kd.R_reads' HO_7.out).1
  rw [hl7_1] at HO_7
  (try simp only [hl7_1])
  (try simp only [hl7_1] at BK204)
  cases gk with
  | zero => exact absurd HA.out (by simp [tapeshift_mover_by.l0])
  | succ k1 =>
   have H := HA.out
   clear HA
   simp only [tapeshift_mover_by.l0] at H
   by_cases c8 : x13_1 < (t205.length : Int)
   ·rw [if_pos c8] at H
    have c8b0 : decide (x13_1 < (t205.length : Int)) = true := decide_eq_true c8
    try have c8b0_ : decide (x13_1 < (x7_1.length : Int)) = true := by rw [← hl7_1];exact c8b0
    clear c8
    by_cases c9 : 0 ≤ x13_1
    ·rw [if_pos c9] at H
     have c9b0 : decide (0 ≤ x13_1) = true := decide_eq_true c9
     clear c9
     by_cases c10 : x13_1 < (x7_1.length : Int)
     ·rw [if_pos c10] at H
      have c10b0 : decide (x13_1 < (x7_1.length : Int)) = true := decide_eq_true c10
      clear c10
      by_cases c11 : x13_1 < (l0_2.length : Int)
      ·rw [if_pos c11] at H
       have c11b0 : decide (x13_1 < (l0_2.length : Int)) = true := decide_eq_true c11
       clear c11
       replace H := Option.bind_eq_some_iff.mp H
       obtain ⟨t210,A120,H⟩ := H
       replace H : ((field_Add.f k1 a0_0 (rd x7_1 x13_1) t210).bind fun t211 => (tapeshift_mover_by.l0 k1 a1 (x7_1.set (x13_1 : Int).toNat t211) (t205.length : Int) (wrap64 (x13_1 + 1)) a0_0 a0_1 l0_2)) = some r := H
       have A12 := Aside0.mk A120
       clear A120
       replace H := Option.bind_eq_some_iff.mp H
       obtain ⟨t211,A130,H⟩ := H
       replace H : (tapeshift_mover_by.l0 k1 a1 (x7_1.set (x13_1 : Int).toNat t211) (t205.length : Int) (wrap64 (x13_1 + 1)) a0_0 a0_1 l0_2) = some r := H
       have A13 := Aside0.mk A130
       clear A130
       obtain ⟨y212,hy212⟩ : ∃ y_ : List Int,y_ = (x7_1.set (x13_1 : Int).toNat t211) := ⟨_,rfl⟩
       replace H : (tapeshift_mover_by.l0 k1 a1 y212 (t205.length : Int) (wrap64 (x13_1 + 1)) a0_0 a0_1 l0_2) = some r := by first|(rw [hy212];with_reducible exact H)|(have H2_ := (Option.bind_some _ _).symm.trans H;rw [hy212];with_reducible exact H2_)|(have H2_ := (Option.bind_some _ _).symm.trans H;with_reducible exact H2_)|with_reducible exact H|(rw [hy212];exact H)|exact H
       have Ny212 := Aside0.mk hy212
       clear hy212
       have H' := Aside0.mk H
       clear H
       try go_wp2
       have n0_ := Aside0.mk (Kd.R_drew HO_7.out)
       have n1_ := Aside0.mk (blk_drew BK204.out)
       have n2_ := Aside0.mk (below_drew1 HB.out)
       clear HO_7
       clear BK204
       clear HB
       have HO_7 := n0_
       have BK204 := n1_
       have HB := n2_
       clear n0_ n1_ n2_
       have p208 : 0 ≤ (x13_1 : Int) := of_decide_eq_true (by first|(with_reducible assumption)|assumption)
       have q208 : x13_1 < (x7_1.length : Int) := of_decide_eq_true (by first|(with_reducible assumption)|assumption)
       obtain ⟨ad208,e208,hx208_0⟩ := Kd.at_int (Kd.R_reads' HO_7.out).2.2 x13_1 p208 q208
       cases e208
       replace p208 := eq_true p208
       replace q208 := eq_true q208
       have p209 : 0 ≤ (x13_1 : Int) := of_decide_eq_true (by first|(with_reducible assumption)|assumption)
       have q209 : x13_1 < (l0_2.length : Int) := of_decide_eq_true (by first|(with_reducible assumption)|assumption)
       obtain ⟨ad209,e209,hx209_0⟩ := Kd.at_int HR0_2.out x13_1 p209 q209
       have hw209_0 := hx209_0
       cases e209
       replace hx209_0 := (HB.out.cell (World.block_lt_of_cell? w _ hx209_0)).trans hx209_0
       replace p209 := eq_true p209
       replace q209 := eq_true q209
       refine start_ (n := 20) (S := fun w' => w'.cell? ⟨gb204,0,none⟩ = some (.int .u64 a0_0) ∧ w'.cell? ⟨gb204,1,none⟩ = some (.int .i64 a0_1) ∧ w'.cell? ⟨gb204,2,none⟩ = some (.slice (some ad209) l0_2.length c0_2) ∧ w'.cell? (ad208.add (x13_1).toNat) = some (.int .u64 (rd x7_1 x13_1)) ∧ w'.cell? (ad209.add (x13_1).toNat) = some (.int .u64 (rd l0_2 x13_1))) (ds := [19]) #[false,false,false,false,false,false,false,false,false,false,false,false,false,false,false,false,false,false,false,false] (by kernel_rfl) rfl rfl ⟨(blk_cell BK204.out 0).trans rfl,(blk_cell BK204.out 1).trans rfl,(blk_cell BK204.out 2).trans rfl,hx208_0,((HB.out.cell (World.block_lt_of_cell? w _ hw209_0)).trans hw209_0)⟩ (fun hHeld => ?_);refine with_tabW tapeshift_mover_by.tab5 tapeshift_mover_by.bits5 (fun HT_ HW_ => ?_)
       generalize wr.drew = w15 at HO_7 BK204 HB hx208_0 hx209_0 hHeld ⊢
       refine pure_ (i := 0) (N := some 16) (v := ?_) (a' := ?_) #[true,false,false,false,false,false,false,false,false,false,false,false,false,false,false,false,false,false,false,false] rfl rfl (any_of HT_.out (by kernel_rfl)) (fun _ _ _ h => h) (Or.inl ⟨by rfl,?_⟩) ?_ ?_
       rotate_left
       ·intro w'
        go_simp
        with_reducible rfl
       rotate_left
       ·simp only [Act.put,List.setIfInBounds_toArray,List.set_cons_zero,List.set_cons_succ,i64_w,i32_w]
        rfl
       refine pure_ (i := 1) (N := some 17) (v := ?_) (a' := ?_) #[true,true,false,false,false,false,false,false,false,false,false,false,false,false,false,false,false,false,false,false] rfl rfl (any_of HT_.out (by kernel_rfl)) (fun _ _ _ h => h) (Or.inl ⟨by rfl,?_⟩) ?_ ?_
       rotate_left
       ·intro w'
        go_simp
        with_reducible rfl
       rotate_left
       ·simp only [Act.put,List.setIfInBounds_toArray,List.set_cons_zero,List.set_cons_succ,i64_w,i32_w]
        rfl
       refine pure_ (i := 2) (N := some 18) (v := ?_) (a' := ?_) #[true,true,true,false,false,false,false,false,false,false,false,false,false,false,false,false,false,false,false,false] rfl rfl (any_of HT_.out (by kernel_rfl)) (fun _ _ _ h => h) (Or.inl ⟨by rfl,?_⟩) ?_ ?_
       rotate_left
       ·intro w'
        go_simp
        with_reducible rfl
       rotate_left
       ·simp only [Act.put,List.setIfInBounds_toArray,List.set_cons_zero,List.set_cons_succ,i64_w,i32_w]
        rfl
       refine pure_ (i := 4) (N := some 20) (v := ?_) (a' := ?_) #[true,true,true,false,true,false,false,false,false,false,false,false,false,false,false,false,false,false,false,false] rfl rfl (any_of HT_.out (by kernel_rfl)) (fun _ _ _ h => h) (Or.inl ⟨by rfl,?_⟩) ?_ ?_
       rotate_left
       ·intro w'
        go_simp
        with_reducible rfl
       rotate_left
       ·simp only [Act.put,List.setIfInBounds_toArray,List.set_cons_zero,List.set_cons_succ,i64_w,i32_w]
        rfl
       refine pure_ (i := 5) (N := some 21) (v := ?_) (a' := ?_) #[true,true,true,false,true,true,false,false,false,false,false,false,false,false,false,false,false,false,false,false] rfl rfl (any_of HT_.out (by kernel_rfl)) (fun _ _ _ h => h) (Or.inl ⟨by rfl,?_⟩) ?_ ?_
       rotate_left
       ·intro w'
        go_simp
        with_reducible rfl
       rotate_left
       ·simp only [Act.put,List.setIfInBounds_toArray,List.set_cons_zero,List.set_cons_succ,i64_w,i32_w]
        rfl
       refine pure_ (i := 6) (N := some 22) (v := ?_) (a' := ?_) #[true,true,true,false,true,true,true,false,false,false,false,false,false,false,false,false,false,false,false,false] rfl rfl (any_of HT_.out (by kernel_rfl)) (fun _ _ _ h => h) (Or.inl ⟨by rfl,?_⟩) ?_ ?_
       rotate_left
       ·intro w'
        go_simp
        with_reducible rfl
       rotate_left
       ·simp only [Act.put,List.setIfInBounds_toArray,List.set_cons_zero,List.set_cons_succ,i64_w,i32_w]
        rfl
       refine pure_ (i := 8) (N := some 24) (v := ?_) (a' := ?_) #[true,true,true,false,true,true,true,false,true,false,false,false,false,false,false,false,false,false,false,false] rfl rfl (any_of HT_.out (by kernel_rfl)) (fun _ _ _ h => h) (Or.inl ⟨by rfl,?_⟩) ?_ ?_
       rotate_left
       ·intro w'
        go_simp
        with_reducible rfl
       rotate_left
       ·simp only [Act.put,List.setIfInBounds_toArray,List.set_cons_zero,List.set_cons_succ,i64_w,i32_w]
        rfl
       refine pure_ (i := 10) (N := some 26) (v := ?_) (a' := ?_) #[true,true,true,false,true,true,true,false,true,false,true,false,false,false,false,false,false,false,false,false] rfl rfl (any_of HT_.out (by kernel_rfl)) (fun _ _ _ h => h) (Or.inl ⟨by rfl,?_⟩) ?_ ?_
       rotate_left
       ·intro w'
        go_simp
        with_reducible rfl
       rotate_left
       ·simp only [Act.put,List.setIfInBounds_toArray,List.set_cons_zero,List.set_cons_succ,i64_w,i32_w]
        rfl
       refine pure_ (i := 11) (N := some 27) (v := ?_) (a' := ?_) #[true,true,true,false,true,true,true,false,true,false,true,true,false,false,false,false,false,false,false,false] rfl rfl (any_of HT_.out (by kernel_rfl)) (fun _ _ _ h => h) (Or.inl ⟨by rfl,?_⟩) ?_ ?_
       rotate_left
       ·intro w'
        go_simp
        with_reducible rfl
       rotate_left
       ·simp only [Act.put,List.setIfInBounds_toArray,List.set_cons_zero,List.set_cons_succ,i64_w,i32_w]
        rfl
       refine pure_ (i := 13) (N := some 29) (v := ?_) (a' := ?_) #[true,true,true,false,true,true,true,false,true,false,true,true,false,true,false,false,false,false,false,false] rfl rfl (any_of HT_.out (by kernel_rfl)) (fun _ _ _ h => h) (Or.inl ⟨by rfl,?_⟩) ?_ ?_
       rotate_left
       ·intro w'
        go_simp
        with_reducible rfl
       rotate_left
       ·simp only [Act.put,List.setIfInBounds_toArray,List.set_cons_zero,List.set_cons_succ,i64_w,i32_w]
        rfl
       refine take_ (i := 3) (N := some 19) (v := ?_) (a' := ?_) #[true,true,true,true,true,true,true,false,true,false,true,true,false,true,false,false,false,false,false,false] rfl rfl (take_ofW HT_.out HW_.out (by kernel_rfl)) (fun _ _ _ h => h) (Or.inl ⟨by rfl,?_⟩) hHeld ?_ ?_
       rotate_left
       ·rintro w' ⟨s0,s1,s2,s3,s4⟩
        go_simp
        with_reducible rfl
       rotate_left
       ·simp only [Act.put,List.setIfInBounds_toArray,List.set_cons_zero,List.set_cons_succ,i64_w,i32_w]
        rfl
       refine take_ (i := 7) (N := some 23) (v := ?_) (a' := ?_) #[true,true,true,true,true,true,true,true,true,false,true,true,false,true,false,false,false,false,false,false] rfl rfl (take_ofW HT_.out HW_.out (by kernel_rfl)) (fun _ _ _ h => h) (Or.inl ⟨by rfl,?_⟩) hHeld ?_ ?_
       rotate_left
       ·rintro w' ⟨s0,s1,s2,s3,s4⟩
        go_simp
        with_reducible rfl
       rotate_left
       ·simp only [Act.put,List.setIfInBounds_toArray,List.set_cons_zero,List.set_cons_succ,i64_w,i32_w]
        rfl
       refine take_ (i := 9) (N := some 25) (v := ?_) (a' := ?_) #[true,true,true,true,true,true,true,true,true,true,true,true,false,true,false,false,false,false,false,false] rfl rfl (take_ofW HT_.out HW_.out (by kernel_rfl)) (fun _ _ _ h => h) (Or.inl ⟨by rfl,?_⟩) hHeld ?_ ?_
       rotate_left
       ·rintro w' ⟨s0,s1,s2,s3,s4⟩
        go_simp
        with_reducible rfl
       rotate_left
       ·simp only [Act.put,List.setIfInBounds_toArray,List.set_cons_zero,List.set_cons_succ,i64_w,i32_w]
        rfl
       refine take_ (i := 12) (N := some 28) (v := ?_) (a' := ?_) #[true,true,true,true,true,true,true,true,true,true,true,true,true,true,false,false,false,false,false,false] rfl rfl (take_ofW HT_.out HW_.out (by kernel_rfl)) (fun _ _ _ h => h) (Or.inl ⟨by rfl,?_⟩) hHeld ?_ ?_
       rotate_left
       ·rintro w' ⟨s0,s1,s2,s3,s4⟩
        go_simp
        with_reducible rfl
       rotate_left
       ·simp only [Act.put,List.setIfInBounds_toArray,List.set_cons_zero,List.set_cons_succ,i64_w,i32_w]
        rfl
       refine pure_ (i := 14) (N := some 30) (v := ?_) (a' := ?_) #[true,true,true,true,true,true,true,true,true,true,true,true,true,true,true,false,false,false,false,false] rfl rfl (any_of HT_.out (by kernel_rfl)) (fun _ _ _ h => h) (Or.inl ⟨by rfl,?_⟩) ?_ ?_
       rotate_left
       ·intro w'
        go_simp
        with_reducible rfl
       rotate_left
       ·simp only [Act.put,List.setIfInBounds_toArray,List.set_cons_zero,List.set_cons_succ,i64_w,i32_w]
        rfl
       refine take_ (i := 15) (N := some 31) (v := ?_) (a' := ?_) #[true,true,true,true,true,true,true,true,true,true,true,true,true,true,true,true,false,false,false,false] rfl rfl (take_ofW HT_.out HW_.out (by kernel_rfl)) (fun _ _ _ h => h) (Or.inl ⟨by rfl,?_⟩) hHeld ?_ ?_
       rotate_left
       ·rintro w' ⟨s0,s1,s2,s3,s4⟩
        go_simp
        with_reducible rfl
       rotate_left
       ·simp only [Act.put,List.setIfInBounds_toArray,List.set_cons_zero,List.set_cons_succ,i64_w,i32_w]
        rfl
       refine one_ (i := 16) (N := some 32) #[true,true,true,true,true,true,true,true,true,true,true,true,true,true,true,true,true,false,false,false] rfl rfl (one_of HT_.out (by kernel_rfl)) (by decide) (fun K hK => ?_)
       refine goes_ Try.func70 (by kernel_rfl) rfl #[.int .u64 a0_0,.int .u64 a1,.int .u64 (rd l0_2 x13_1)] (by rfl) rfl rfl (by (try simp only [List.map_toArray,List.map_cons,List.map_nil]);first|done|rfl|(simp only [List.length_drop,List.length_take];rfl)) ?_
       with_reducible refine (field_Mul.calls k1 a0_0 a1 (rd l0_2 x13_1) t210 _ A12.out).mono ?_
       rintro e w' ⟨rfl,⟨nd,rfl⟩⟩
       refine ⟨_,rfl,?_⟩
       refine hK.out _ _ ⟨(blk_cell BK204.out 0).trans rfl,(blk_cell BK204.out 1).trans rfl,(blk_cell BK204.out 2).trans rfl,hHeld.2.2.2.1,((HB.out.cell (World.block_lt_of_cell? w _ hw209_0)).trans hw209_0)⟩ (fun hHeld => ?_)
       clear hK K
       refine norm_ (a' := ?_) ?_ ?_
       rotate_left
       ·show Act.put _ (some 32) _ = _
        simp only [Act.put,List.setIfInBounds_toArray,List.set_cons_zero,List.set_cons_succ,i64_w,i32_w]
        rfl
       refine one_ (i := 17) (N := some 33) #[true,true,true,true,true,true,true,true,true,true,true,true,true,true,true,true,true,true,false,false] rfl rfl (one_of HT_.out (by kernel_rfl)) (by decide) (fun K hK => ?_)
       refine goes_ Try.func69 (by kernel_rfl) rfl #[.int .u64 a0_0,.int .u64 (rd x7_1 x13_1),.int .u64 t210] (by rfl) rfl rfl (by (try simp only [List.map_toArray,List.map_cons,List.map_nil]);first|done|rfl|(simp only [List.length_drop,List.length_take];rfl)) ?_
       with_reducible refine (field_Add.calls k1 a0_0 (rd x7_1 x13_1) t210 t211 _ A13.out).mono ?_
       rintro e w' ⟨rfl,⟨nd,rfl⟩⟩
       refine ⟨_,rfl,?_⟩
       have p14 : 0 ≤ (x13_1 : Int) := of_decide_eq_true (by first|(with_reducible assumption)|assumption)
       have q14 : (x13_1 : Int) < ((x7_1.length : Int) : Int) := of_decide_eq_true (by first|(with_reducible assumption)|assumption)
       obtain ⟨go14,co14,eo14,gb14,gl14,cl14,HG14⟩ := Kd.R_form HO_7.out (by omega)
       (first|cases eo14|(injection eo14 with ea_ en_ ec_;(first|subst ea_|(injection ea_ with ea_;subst ea_));subst ec_;clear en_))
       have GB14 := Aside0.mk gb14
       have GG14 := Aside0.mk HG14
       clear gb14 gl14 HG14
       (first|simp only [add_plain] at hx208_0|skip)
       obtain ⟨hx14_0,hf14_0⟩ := Kd.R_celln 0 HO_7.out (x13_1 : Int) p14 q14
       replace p14 := eq_true p14
       replace q14 := eq_true q14
       have HP16 := Kd.R_putn HO_7.out (x13_1 : Int) t211
       rw [← Ny212.out] at HP16
       have HQ16 := Aside0.mk HP16
       clear HP16
       refine hK.out _ _ ⟨(blk_cell BK204.out 0).trans rfl,(blk_cell BK204.out 1).trans rfl,(blk_cell BK204.out 2).trans rfl,hHeld.2.2.2.1,((HB.out.cell (World.block_lt_of_cell? w _ hw209_0)).trans hw209_0)⟩ (fun hHeld => ?_)
       clear hK K
       refine norm_ (a' := ?_) ?_ ?_
       rotate_left
       ·show Act.put _ (some 33) _ = _
        simp only [Act.put,List.setIfInBounds_toArray,List.set_cons_zero,List.set_cons_succ,i64_w,i32_w]
        rfl
       refine pure_ (i := 18) (N := some 34) (v := ?_) (a' := ?_) #[true,true,true,true,true,true,true,true,true,true,true,true,true,true,true,true,true,true,true,false] rfl rfl (any_of HT_.out (by kernel_rfl)) (fun _ _ _ h => h) (Or.inl ⟨by rfl,?_⟩) ?_ ?_
       rotate_left
       ·intro w'
        go_simp
        with_reducible rfl
       rotate_left
       ·simp only [Act.put,List.setIfInBounds_toArray,List.set_cons_zero,List.set_cons_succ,i64_w,i32_w]
        rfl
       refine last_ (i := 19) (N := none) #[true,true,true,true,true,true,true,true,true,true,true,true,true,true,true,true,true,true,true,true] rfl rfl (one_of HT_.out (by kernel_rfl)) (by decide) (fun K hK => ?_)
       refine skip_ (w1 := ?_) (by rfl) rfl ?_ ?_
       rotate_left
       ·go_simp
        rfl
       refine hK.out _ _ ?_
       clear hK K
       refine done_ (done_of HT_.out (by kernel_rfl)) ?_
       try go_wp2
       (try simp only [← hl7_1])
       go_roundg k1
       case measure => have := HK1.out;omega
       case rel => exact ⟨(y212),(wrap64 (x13_1 + 1)),(by first|rfl|(simp;done)|(simp [*];done)),H',⟨by have := HK1.out;omega⟩,⟨by (try simp only [hl7_1]);(with_reducible repeat (first|apply Kd.R_alloc|apply Kd.R_drewN|apply Kd.R_drew));exact HQ16.out⟩,⟨by (try simp only [hl7_1]);(with_reducible repeat (first|refine blk_drewN ?_ _|refine blk_drew ?_|refine blk_alloc ?_ _));refine blk_far ?_ (by have h_ := Kd.R_ne HO_7.out BK204.out (by decide);intro e_;exact h_ (by rw [e_];rfl)) _;(with_reducible repeat (first|refine blk_drewN ?_ _|refine blk_drew ?_|refine blk_alloc ?_ _));exact BK204.out⟩,⟨by repeat (first|(with_reducible first|exact HB.out|apply below_alloc|apply pw_below_drewN|apply below_drew1|refine below_set ?_ GB14.out|refine below_set ?_ GE204.out)|exact HB.out)⟩⟩
      ·rw [if_neg c11] at H
       exact absurd H (by simp)
     ·rw [if_neg c10] at H
      exact absurd H (by simp)
    ·rw [if_neg c9] at H
     exact absurd H (by simp)
   ·rw [if_neg c8] at H
    have c8b0 : decide (x13_1 < (t205.length : Int)) = false := decide_eq_false c8
    try have c8b0_ : decide (x13_1 < (x7_1.length : Int)) = false := by rw [← hl7_1];exact c8b0
    clear c8
    obtain rfl := Option.some.inj H
    go_wp2
    go_ret
    exact ⟨_,by first|rfl|(simp [errW_none,errW_some] <;> rfl)|(simp [*,errW_none,errW_some] <;> rfl),by (with_reducible repeat (first|apply Kd.R_alloc|apply Kd.R_drewN|apply Kd.R_drew));exact HO_7.out,by repeat (first|(with_reducible first|exact HB.out|apply below_alloc|apply pw_below_drewN|apply below_drew1|refine below_set ?_ GE204.out)|exact HB.out)⟩
end Go.Proofs.Ytejeelpnmdfibaa.Pr
end
section
/-
  Square matrices as bivariate polynomials: rows, symmetry, translation, uniqueness; plainly.
-/
namespace Go.Proofs.Ytejeelpnmdfibaa.E
open Go.RowKit Go.Proofs.Ytejeelpnmdfibaa.Pr Go.Proofs.Ytejeelpnmdfibaa.Hw Go.Proofs.Ytejeelpnmdfibaa.Pl Go.Proofs.YtejeelpnmdfibaaW.PrintWords Go.Proofs.YtejeelpnmdfibaaW.PrintLast Go.Proofs.YtejeelpnmdfibaaW.PrintMore
set_option linter.unusedVariables false
set_option linter.unusedSimpArgs false

theorem getD_out (l : List Int) (j : Nat) (h : l.length ≤ j) : l.getD j 0 = 0 := by rw [List.getD_eq_getElem?_getD, List.getElem?_eq_none h]; rfl
theorem res_getD {p : Int} (hp : Supp p) {l : List Int} (hl : ∀ x ∈ l, Res p x) (i : Nat) : Res p (l.getD i 0) := by
  rw [List.getD_eq_getElem?_getD]
  by_cases hi : i < l.length
  · rw [List.getElem?_eq_getElem hi]; exact hl _ (List.getElem_mem hi)
  · rw [List.getElem?_eq_none (by omega)]; have := hp.bd; exact ⟨Int.le_refl 0, by show (0 : Int) < p; omega⟩
theorem list_ext_getD {a b : List Int} (hl : a.length = b.length) (h : ∀ i, a.getD i 0 = b.getD i 0) : a = b := by
  refine List.ext_getElem hl fun i h1 h2 => ?_
  have := h i
  rw [List.getD_eq_getElem?_getD, List.getD_eq_getElem?_getD, List.getElem?_eq_getElem h1, List.getElem?_eq_getElem h2] at this
  exact this
/-- A list by its entries. -/
def tabL (n : Nat) (h : Nat → Int) : List Int := (List.range n).map h
theorem tabL_length (n : Nat) (h : Nat → Int) : (tabL n h).length = n := by simp [tabL]
theorem tabL_succ (n : Nat) (h : Nat → Int) : tabL (n + 1) h = tabL n h ++ [h n] := by simp [tabL, List.range_succ]
theorem tabL_getD (n : Nat) (h : Nat → Int) (i : Nat) : (tabL n h).getD i 0 = if i < n then h i else 0 := by
  unfold tabL
  rw [List.getD_eq_getElem?_getD]
  by_cases hi : i < n
  · rw [if_pos hi, List.getElem?_map, List.getElem?_range hi]; rfl
  · rw [if_neg hi, List.getElem?_eq_none (by simpa using hi)]; rfl
theorem tabL_res {p : Int} {n : Nat} {h : Nat → Int} (hr : ∀ i, i < n → Res p (h i)) : ∀ x ∈ tabL n h, Res p x := fun x hx => by
  obtain ⟨i, hi, rfl⟩ := List.mem_map.1 hx
  exact hr i (List.mem_range.1 hi)
theorem tabL_congr {n : Nat} {h g : Nat → Int} (e : ∀ i, i < n → h i = g i) : tabL n h = tabL n g := List.map_congr_left fun i hi => e i (List.mem_range.1 hi)
theorem tabL_of (l : List Int) : tabL l.length (fun i => l.getD i 0) = l := by
  refine list_ext_getD (tabL_length _ _) fun i => ?_
  rw [tabL_getD]
  split
  · rfl
  · exact (getD_out l i (by omega)).symm
theorem tabL_inj {n : Nat} {h g : Nat → Int} (e : tabL n h = tabL n g) (i : Nat) (hi : i < n) : h i = g i := by
  have := congrArg (fun l => l.getD i 0) e
  simp only [tabL_getD, if_pos hi] at this
  exact this
/-- A matrix by its entries. -/
def at2 (s : List (List Int)) (i j : Nat) : Int := (s.getD i []).getD j 0
def matP (n : Nat) (g : Nat → Nat → Int) (k : Nat) : List (List Int) := (List.range k).map fun i => tabL n (g i)
def matL (n : Nat) (g : Nat → Nat → Int) : List (List Int) := matP n g n
theorem matP_length (n : Nat) (g : Nat → Nat → Int) (k : Nat) : (matP n g k).length = k := by simp [matP]
theorem matP_getD (n : Nat) (g : Nat → Nat → Int) (k i : Nat) (hi : i < k) : (matP n g k).getD i [] = tabL n (g i) := by
  unfold matP
  rw [List.getD_eq_getElem?_getD, List.getElem?_map, List.getElem?_range hi]; rfl
structure Sq (n : Nat) (s : List (List Int)) : Prop where
  len : s.length = n
  row : ∀ r ∈ s, r.length = n
theorem Sq.getD {n : Nat} {s : List (List Int)} (h : Sq n s) (i : Nat) (hi : i < n) : (s.getD i []).length = n := by
  have hl := h.len
  rw [List.getD_eq_getElem?_getD, List.getElem?_eq_getElem (by omega)]
  exact h.row _ (List.getElem_mem _)
theorem matL_sq (n : Nat) (g : Nat → Nat → Int) : Sq n (matL n g) := ⟨matP_length _ _ _, fun r hr => by
  obtain ⟨i, _, rfl⟩ := List.mem_map.1 hr
  exact tabL_length _ _⟩
theorem Sq.eq {n : Nat} {s : List (List Int)} (h : Sq n s) : s = matL n (at2 s) := by
  have hl := h.len
  refine List.ext_getElem (by rw [(matL_sq n (at2 s)).len, hl]) fun i h1 h2 => ?_
  have e1 : s[i] = s.getD i [] := by rw [List.getD_eq_getElem?_getD, List.getElem?_eq_getElem h1]; rfl
  have e2 : (matL n (at2 s))[i] = (matL n (at2 s)).getD i [] := by rw [List.getD_eq_getElem?_getD, List.getElem?_eq_getElem h2]; rfl
  rw [e1, e2]
  unfold matL
  rw [matP_getD _ _ _ _ (by omega)]
  have := h.getD i (by omega)
  exact (tabL_of (s.getD i [])).symm.trans (by rw [this]; rfl)
def ResM (p : Int) (s : List (List Int)) : Prop := ∀ r ∈ s, ∀ x ∈ r, Res p x
theorem ResM.at2 {p : Int} (hp : Supp p) {s : List (List Int)} (h : ResM p s) (i j : Nat) : Res p (at2 s i j) := by
  unfold E.at2
  refine res_getD hp (fun x hx => ?_) j
  rw [List.getD_eq_getElem?_getD] at hx
  by_cases hi : i < s.length
  · rw [List.getElem?_eq_getElem hi] at hx; exact h _ (List.getElem_mem hi) x hx
  · rw [List.getElem?_eq_none (by omega)] at hx; cases hx
/-- The row at x. -/
def rowX (p : Int) (n : Nat) (g : Nat → Nat → Int) (x : Int) : List Int := tabL n fun j => evI p x (tabL n fun i => g i j)
theorem rowX_length (p : Int) (n : Nat) (g : Nat → Nat → Int) (x : Int) : (rowX p n g x).length = n := tabL_length _ _
/-- One word translated. -/
def trG (p d : Int) (z : Nat → Int) (g : Nat → Nat → Int) (i j : Nat) : Int := (g i j + d * (z i * z j % p) % p) % p
theorem evI_zero' {p : Int} (hp : Supp p) {l : List Int} (hl : ∀ x ∈ l, Res p x) : evI p 0 l = l.getD 0 0 := by
  cases l with
  | nil => rfl
  | cons c l => show (evI p 0 l * 0 % p + c) % p = c; rw [Int.mul_zero, Int.zero_emod, Int.zero_add]; exact (hl c (by simp)).eq
section
variable {p : Int} (hp : Supp p) [NeZero p.toNat]
theorem sumF_add (f g : Nat → Fin p.toNat) : ∀ n, sumF (fun i => f i + g i) n = sumF f n + sumF g n
  | 0 => by simp only [sumF]; grind
  | n + 1 => by simp only [sumF]; rw [sumF_add f g n]; grind
theorem sumF_mul (c : Fin p.toNat) (f : Nat → Fin p.toNat) : ∀ n, sumF (fun i => c * f i) n = c * sumF f n
  | 0 => by simp only [sumF]; grind
  | n + 1 => by simp only [sumF]; rw [sumF_mul c f n]; grind
theorem ev_tab (x : Fin p.toNat) (h : Nat → Int) : ∀ n, ev x (M p (tabL n h)) = sumF (fun i => T p (h i) * mono x i) n
  | 0 => rfl
  | n + 1 => by
    rw [tabL_succ]
    have e : M p (tabL n h ++ [h n]) = M p (tabL n h) ++ [T p (h n)] := by unfold M; rw [List.map_append]; rfl
    rw [e, ev_append, M_length, tabL_length, ev_tab x h n]
    simp only [ev, sumF]
    grind
include hp in
theorem T_tab (x : Int) (n : Nat) (h : Nat → Int) : T p (evI p x (tabL n h)) = sumF (fun i => T p (h i) * mono (T p x) i) n := by rw [ev_evI hp, ev_tab]
end
/-- Polynomials of at most n coefficients that agree at n points are equal. -/
theorem tab_uniq {p : Int} (hp : Supp p) {xs : List Int} (hx : ∀ x ∈ xs, Res p x) (hn : xs.Nodup) {n : Nat} (hl : n ≤ xs.length) {h g : Nat → Int} (hh : ∀ i, i < n → Res p (h i)) (hg : ∀ i, i < n → Res p (g i))
    (e : ∀ x ∈ xs, evI p x (tabL n h) = evI p x (tabL n g)) (i : Nat) (hi : i < n) : h i = g i := by
  have h1 := uniq hp hx hn (tabL_res hh) (tabL_res hg) (by rw [tabL_length]; exact hl) (by rw [tabL_length]; exact hl) e
  have h2 := congrArg (fun l => l.getD i 0) h1
  simp only [trimL_getD, tabL_getD, if_pos hi] at h2
  exact h2
theorem trG_res {p : Int} (hp : Supp p) (d : Int) (z : Nat → Int) (g : Nat → Nat → Int) (i j : Nat) : Res p (trG p d z g i j) := Res.mod hp _
theorem trG_T {p : Int} (hp : Supp p) [NeZero p.toNat] (d : Int) (z : Nat → Int) (g : Nat → Nat → Int) (i j : Nat) : T p (trG p d z g i j) = T p (g i j) + T p d * (T p (z i) * T p (z j)) := by
  unfold trG
  rw [T_mod hp, T_add, T_mod hp, T_mul, T_mod hp, T_mul]
/-- Symmetric matrices with the same rows at the roots of z differ by a translation. -/
theorem tr_unique {p : Int} (hp : Supp p) {xs : List Int} (hx : ∀ x ∈ xs, Res p x) (hn : (0 :: xs).Nodup) {n : Nat} (hl : n = xs.length + 1) {z : Nat → Int} (hz : ∀ i, i < n → Res p (z i)) (z0 : z 0 = 1) (hzx : ∀ x ∈ xs, evI p x (tabL n z) = 0)
    {g o : Nat → Nat → Int} (hg : ∀ i j, Res p (g i j)) (ho : ∀ i j, Res p (o i j)) (sg : ∀ i, i < n → ∀ j, j < n → g i j = g j i) (so : ∀ i, i < n → ∀ j, j < n → o i j = o j i)
    (he : ∀ x ∈ xs, rowX p n o x = rowX p n g x) (i : Nat) (hi : i < n) (j : Nat) (hj : j < n) : trG p ((o 0 0 - g 0 0) % p) z g i j = o i j := by
  haveI := nz hp
  have hb := hp.bd
  have hx0 : ∀ x ∈ 0 :: xs, Res p x := fun x h => by
    rcases List.mem_cons.1 h with rfl | h
    · exact ⟨Int.le_refl 0, by omega⟩
    · exact hx x h
  have key : ∀ j, j < n → ∀ i, i < n → (o i j - g i j) % p = (o 0 j - g 0 j) * z i % p := by
    intro j hj
    refine tab_uniq hp hx0 hn (by rw [List.length_cons]; omega) (fun i _ => Res.mod hp _) (fun i _ => Res.mod hp _) (fun x hxx => ?_)
    have e1 : ∀ x, T p (evI p x (tabL n fun i => (o i j - g i j) % p)) = T p (evI p x (tabL n fun i => o i j)) - T p (evI p x (tabL n fun i => g i j)) := fun x => by
      have h1 : T p (evI p x (tabL n fun i => g i j)) + T p (evI p x (tabL n fun i => (o i j - g i j) % p)) = T p (evI p x (tabL n fun i => o i j)) := by
        rw [T_tab hp, T_tab hp, T_tab hp, ← sumF_add]
        exact sumF_congr _ fun i hi => by rw [T_mod hp, T_sub]; grind
      rw [← h1]; grind
    have e2 : ∀ x, T p (evI p x (tabL n fun i => (o 0 j - g 0 j) * z i % p)) = (T p (o 0 j) - T p (g 0 j)) * T p (evI p x (tabL n z)) := fun x => by
      rw [T_tab hp, T_tab hp, ← sumF_mul]
      exact sumF_congr _ fun i hi => by rw [T_mod hp, T_mul, T_sub]; grind
    refine T_inj hp (evI_res hp _ _) (evI_res hp _ _) ?_
    rw [e1, e2]
    rcases List.mem_cons.1 hxx with rfl | h
    · have hj0 : ∀ h : Nat → Int, (∀ i, i < n → Res p (h i)) → evI p 0 (tabL n h) = h 0 := fun h hr => by
        rw [evI_zero' hp (tabL_res hr), tabL_getD, if_pos (by omega)]
      rw [hj0 _ (fun i _ => ho i j), hj0 _ (fun i _ => hg i j), hj0 _ hz, z0, T_one]; grind
    · have h1 := tabL_inj (he x h) j hj
      rw [h1, hzx x h, T_zero]; grind
  have keyT : ∀ j, j < n → ∀ i, i < n → T p (o i j) - T p (g i j) = (T p (o 0 j) - T p (g 0 j)) * T p (z i) := fun j hj i hi => by
    have := congrArg (T p) (key j hj i hi)
    rw [T_mod hp, T_mod hp, T_sub, T_mul, T_sub] at this; exact this
  refine T_inj hp (trG_res hp _ _ _ _ _) (ho i j) ?_
  have a1 := keyT j hj i hi
  have a2 := keyT 0 (by omega) j hj
  rw [so j hj 0 (by omega), sg j hj 0 (by omega)] at a2
  rw [trG_T hp, T_mod hp, T_sub]
  grind
end Go.Proofs.Ytejeelpnmdfibaa.E
end
section
/-
  New of package bivariate, proved by hand: the matrix that it makes.
-/
namespace Go.Proofs.Ytejeelpnmdfibaa.Hw
open Go.RowKit Go.Proofs.Ytejeelpnmdfibaa.Pr Go.Proofs.YtejeelpnmdfibaaW.PrintWords Go.Proofs.YtejeelpnmdfibaaW.PrintLast Go.Proofs.YtejeelpnmdfibaaW.PrintMore Go.Proofs.Ytejeelpnmdfibaa.E
set_option linter.unusedVariables false
set_option linter.unusedSimpArgs false

/-! A square matrix of the call's own: the outer row at block bo, row i at block bo + 1 + i. -/
def slR (bo n i : Nat) : Value := .slice (some ⟨bo + 1 + i, 0, none⟩) n n
def outC (bo n k : Nat) : List Value := (List.range n).map fun i => if i < k then slR bo n i else .slice none 0 0
def rowC (n : Nat) (h : Nat → Int) : List Value := (List.range n).map fun j => .int .u64 (h j)
theorem outC_get {bo n k i : Nat} (hi : i < n) : (outC bo n k)[i]? = some (if i < k then slR bo n i else .slice none 0 0) := by
  unfold outC; rw [List.getElem?_map, List.getElem?_range hi]; rfl
theorem rowC_get {n j : Nat} {h : Nat → Int} (hj : j < n) : (rowC n h)[j]? = some (.int .u64 (h j)) := by
  unfold rowC; rw [List.getElem?_map, List.getElem?_range hj]; rfl
theorem outC_length (bo n k : Nat) : (outC bo n k).length = n := by simp [outC]
theorem rowC_length (n : Nat) (h : Nat → Int) : (rowC n h).length = n := by simp [rowC]
structure Mx (w : World) (bo n k : Nat) (g : Nat → Nat → Int) : Prop where
  out : w.heap[bo]? = some (.cells (outC bo n k).toArray 26 (0, 0))
  row : ∀ i, i < k → w.heap[bo + 1 + i]? = some (.cells (rowC n (g i)).toArray 22 (0, 0))
def upd (g : Nat → Nat → Int) (i j : Nat) (x : Int) (a b : Nat) : Int := if a = i ∧ b = j then x else g a b
section
variable {w : World} {bo n k : Nat} {g : Nat → Nat → Int}
theorem Mx.cellO (h : Mx w bo n k g) {i : Nat} (hi : i < k) (hn : i < n) : w.cell? ⟨bo, i, none⟩ = some (slR bo n i) := by
  rw [blk_cell h.out, List.getElem?_toArray, outC_get hn, if_pos hi]
theorem Mx.cellR (h : Mx w bo n k g) {i j : Nat} (hi : i < k) (hj : j < n) : w.cell? ⟨bo + 1 + i, j, none⟩ = some (.int .u64 (g i j)) := by
  rw [blk_cell (h.row i hi), List.getElem?_toArray, rowC_get hj]
theorem Mx.frozR (h : Mx w bo n k g) {i : Nat} (hi : i < k) (j : Nat) : w.frozen? ⟨bo + 1 + i, j, none⟩ = false := blk_frozen (h.row i hi) j
theorem Mx.drew (h : Mx w bo n k g) : Mx w.drew bo n k g := ⟨h.out, h.row⟩
theorem Mx.drewN (h : Mx w bo n k g) (m : Nat) : Mx (w.drewN m) bo n k g := ⟨h.out, h.row⟩
theorem Mx.congr (h : Mx w bo n k g) {g' : Nat → Nat → Int} (e : ∀ i, i < k → ∀ j, j < n → g i j = g' i j) : Mx w bo n k g' :=
  ⟨h.out, fun i hi => by
    rw [h.row i hi]
    have : rowC n (g i) = rowC n (g' i) := List.map_congr_left fun j hj => by rw [e i hi j (List.mem_range.1 hj)]
    rw [this]⟩
theorem Mx.put (h : Mx w bo n k g) {i j : Nat} (hi : i < k) (hj : j < n) (x : Int) : Mx (w.setCell ⟨bo + 1 + i, j, none⟩ (.int .u64 x)) bo n k (upd g i j x) := by
  refine ⟨blk_far (p := ⟨bo + 1 + i, j, none⟩) h.out (by show bo ≠ bo + 1 + i; omega) _, fun a ha => ?_⟩
  by_cases e : a = i
  · subst e
    refine blk_put (h.row a ha) j _ ?_
    rw [List.setIfInBounds_toArray]
    congr 1
    refine List.ext_getElem? fun b => ?_
    by_cases hb : b < n
    · rw [rowC_get hb]
      by_cases e2 : b = j
      · subst e2
        rw [List.getElem?_set_self (by rw [rowC_length]; exact hb)]
        simp [upd]
      · rw [List.getElem?_set_ne (Ne.symm e2), rowC_get hb]
        simp [upd, e2]
    · rw [List.getElem?_eq_none (by rw [List.length_set, rowC_length]; omega), List.getElem?_eq_none (by rw [rowC_length]; omega)]
  · have h1 := blk_far (p := ⟨bo + 1 + i, j, none⟩) (h.row a ha) (by show bo + 1 + a ≠ bo + 1 + i; omega) (.int .u64 x)
    rw [h1]
    have : upd g i j x a = g a := by funext b; simp [upd, e]
    rw [this]
theorem Mx.more (h : Mx w bo n k g) (hk : k < n) (hs : w.heap.size = bo + 1 + k) (hz : ∀ j, g k j = 0) :
    Mx ((w.alloc (.cells (rowC n fun _ => 0).toArray 22)).setCell ⟨bo, k, none⟩ (slR bo n k)) bo n (k + 1) g := by
  refine ⟨?_, fun i hi => ?_⟩
  · refine blk_put (blk_alloc h.out _) k _ ?_
    rw [List.setIfInBounds_toArray]
    congr 1
    refine List.ext_getElem? fun b => ?_
    by_cases hb : b < n
    · rw [outC_get hb]
      by_cases e2 : b = k
      · subst e2
        rw [List.getElem?_set_self (by rw [outC_length]; exact hb), if_pos (by omega)]
      · rw [List.getElem?_set_ne (Ne.symm e2), outC_get hb]
        by_cases h3 : b < k
        · rw [if_pos h3, if_pos (by omega)]
        · rw [if_neg h3, if_neg (by omega)]
    · rw [List.getElem?_eq_none (by rw [List.length_set, outC_length]; omega), List.getElem?_eq_none (by rw [outC_length]; omega)]
  · by_cases e : i = k
    · subst e
      have h1 := blk_new w (Obj.cells (rowC n fun _ => 0).toArray 22)
      rw [hs] at h1
      have h2 : g i = fun _ => 0 := funext hz
      rw [h2]
      exact blk_far (p := ⟨bo, i, none⟩) h1 (by show bo + 1 + i ≠ bo; omega) _
    · exact blk_far (p := ⟨bo, k, none⟩) (blk_alloc (h.row i (by omega)) _) (by show bo + 1 + i ≠ bo; omega) _
theorem Mx.own (h : Mx w bo n n g) {base : Nat} (hb : base ≤ bo) (hn : n ≤ 1000000) : Kd.S (Kd.slice 22 (Kd.int .u64)) 26 w base (fun _ => True) (.slice (some ⟨bo, 0, none⟩) n n) (matL n g) := by
  have hl : (matL n g).length = n := (matL_sq n g).len
  refine ⟨fun b => b - (bo + 1), fun _ _ => trivial, outC bo n n, ?_, ?_, fun j p hj => ?_⟩
  · rw [List.length_zipIdx, hl]
    refine ⟨by show (outC bo n n).length = n * 1; rw [outC_length]; omega, .inr ⟨bo, n, (outC bo n n).toArray, rfl, hb, h.out, Nat.le_refl _, by simp only [maxLen]; omega, by show (outC bo n n).toArray.size = n * 1; rw [List.size_toArray, outC_length]; omega, ?_⟩⟩
    show ((outC bo n n).take (n * 1)) = outC bo n n
    exact List.take_of_length_le (by rw [outC_length]; omega)
  · rw [List.length_zipIdx, hl]; show (outC bo n n).length = n * 1; rw [outC_length]; omega
  · rw [List.getElem?_zipIdx, Nat.zero_add] at hj
    obtain ⟨r, hr, rfl⟩ := Option.map_eq_some_iff.1 hj
    have hjn : j < n := by have := (List.getElem?_eq_some_iff.1 hr).1; omega
    have hrow : r = tabL n (g j) := by
      unfold matL matP at hr
      rw [List.getElem?_map, List.getElem?_range hjn] at hr
      exact (Option.some.inj hr).symm
    have hcs : ((outC bo n n).drop (j * 1)).take 1 = [slR bo n j] := by
      refine List.ext_getElem? fun i => ?_
      rw [List.getElem?_take]
      cases i with
      | zero => rw [if_pos (by omega), List.getElem?_drop, Nat.add_zero, Nat.mul_one, outC_get hjn, if_pos hjn]; rfl
      | succ i => rw [if_neg (by omega)]; rfl
    show ∃ v, ((outC bo n n).drop (j * 1)).take 1 = [v] ∧ _
    refine ⟨slR bo n j, hcs, ?_⟩
    have hlen : (tabL n (g j)).length = n := tabL_length _ _
    show Kd.R (Kd.int .u64) 22 w base _ (slR bo n j) r
    rw [hrow]
    refine R_made ?_ (fun b hbk => ?_)
    · rw [hlen]
      have hnm : nums .u64 (tabL n (g j)) = rowC n (g j) := by simp [nums, tabL, rowC]
      rw [hnm]
      refine ⟨by rw [rowC_length]; omega, .inr ⟨bo + 1 + j, n, (rowC n (g j)).toArray, rfl, by omega, h.row j hjn, Nat.le_refl _, by simp only [maxLen]; omega, by rw [List.size_toArray, rowC_length]; omega, ?_⟩⟩
      show (rowC n (g j)).take (n * 1) = _
      exact List.take_of_length_le (by rw [rowC_length]; omega)
    · have e : b = bo + 1 + j := by
        have : (slR bo n j).ownBlock = some (bo + 1 + j) := rfl
        rw [this] at hbk; exact (Option.some.inj hbk).symm
      subst e
      refine ⟨⟨trivial, fun e => ?_⟩, by show bo + 1 + j - (bo + 1) = j; omega⟩
      have e2 : some (bo + 1 + j) = some bo := e
      injection e2 with e2; omega
end
/-- Where row i of the upper triangle (behind the first row) begins in the remaining coefficients. -/
def offs (n : Nat) : Nat → Nat
  | 0 => 0
  | 1 => 0
  | i + 2 => offs n (i + 1) + (n - (i + 1))
theorem offs_next (n i : Nat) (h : 1 ≤ i) : offs n (i + 1) = offs n i + (n - i) := by
  obtain ⟨m, rfl⟩ : ∃ m, i = m + 1 := ⟨i - 1, by omega⟩
  rfl
theorem offs_twice (n : Nat) : ∀ i : Nat, i + 1 ≤ n → (2 * offs n (i + 1) : Int) = i * (2 * n - i - 1)
  | 0, _ => by simp [offs]
  | i + 1, h => by
    have ih := offs_twice n i (by omega)
    rw [offs_next n (i + 1) (by omega)]
    have e : ((n - (i + 1) : Nat) : Int) = (n : Int) - i - 1 := by omega
    rw [Int.natCast_add, e]
    push_cast
    grind
theorem offs_last {n : Nat} (h : 1 ≤ n) : (2 * offs n n : Int) = n * (n - 1) := by
  obtain ⟨m, rfl⟩ : ∃ m, n = m + 1 := ⟨n - 1, by omega⟩
  have := offs_twice (m + 1) m (Nat.le_refl _)
  rw [this]; push_cast; grind
theorem offs_mono {n : Nat} : ∀ (d i : Nat), 1 ≤ i → offs n i ≤ offs n (i + d)
  | 0, i, _ => Nat.le_refl _
  | d + 1, i, h => by
    have := offs_mono (n := n) d i h
    rw [← Nat.add_assoc, offs_next n (i + d) (by omega)]; omega
/-- The coefficient at i and j. -/
def newG (n : Nat) (first rest : List Int) (i j : Nat) : Int :=
  if min i j = 0 then first.getD (max i j) 0 else rest.getD (offs n (min i j) + (max i j - min i j)) 0
theorem newG_sym (n : Nat) (first rest : List Int) (i j : Nat) : newG n first rest i j = newG n first rest j i := by unfold newG; rw [Nat.min_comm, Nat.max_comm]
theorem infoSl : (Try.prog.info? 26).map (fun i => (i.zero, i.size, i.bytes)) = some (some (.slice none 0 0), 1, 24) := by kernel_rfl
theorem mk_run {t e : TypeId} {z : Value} {b : Nat} (ht : Try.prog.underlying t = some (.slice e)) (hinfo : (Try.prog.info? e).map (fun i => (i.zero, i.size, i.bytes)) = some (some z, 1, b)) (hz : z.cells = #[z]) (n : Nat) (hn : n ≤ 1000000) (hb : b ≤ 100) (w : World) :
    (Instr.makeSlice t (.int .i64 (n : Int)) (.int .i64 (n : Int))).run Try.prog w = .ok (.slice (some ⟨w.heap.size, 0, none⟩) n n) (w.alloc (.cells (List.replicate n z).toArray e)) := by
  obtain ⟨i0, hi, hzz⟩ := Option.map_eq_some_iff.1 hinfo
  simp only [Prod.mk.injEq] at hzz
  obtain ⟨hz0, hz1, hz2⟩ := hzz
  have hr := run_make (P := Try.prog) w t e i0 z ht hi hz0 .i64 .i64 (n : Int) (n : Int) (by omega) (by omega)
    (by
      have h3 : ((i0.bytes * n : Nat) : Int) ≤ 281474976710656 := by
        have : i0.bytes * n ≤ 100 * 1000000 := Nat.mul_le_mul (by omega) hn
        omega
      rwa [Int.natCast_mul] at h3) (by omega)
  simp only [Int.toNat_natCast] at hr
  rw [hz1, Nat.mul_one, hz] at hr
  rw [hr]
  have e : madeCells #[z] n = (List.replicate n z).toArray := by
    apply Array.ext'
    rw [toList_madeCells_one]
  rw [e]
theorem outC_zero (bo n : Nat) : List.replicate n (Value.slice none 0 0) = outC bo n 0 := by
  refine List.ext_getElem? fun i => ?_
  by_cases hi : i < n
  · rw [outC_get hi, List.getElem?_replicate, if_pos hi, if_neg (by omega)]
  · rw [List.getElem?_eq_none (by rw [List.length_replicate]; omega), List.getElem?_eq_none (by rw [outC_length]; omega)]
theorem rowC_zero (n : Nat) : List.replicate n (Value.int .u64 0) = rowC n fun _ => 0 := by
  refine List.ext_getElem? fun i => ?_
  by_cases hi : i < n
  · rw [rowC_get hi, List.getElem?_replicate, if_pos hi]
  · rw [List.getElem?_eq_none (by rw [List.length_replicate]; omega), List.getElem?_eq_none (by rw [rowC_length]; omega)]
theorem Mx.start (w : World) (n : Nat) : Mx (w.alloc (.cells (outC w.heap.size n 0).toArray 26)) w.heap.size n 0 (fun _ _ => 0) :=
  ⟨blk_new w _, fun i hi => by omega⟩
theorem alloc_size' (w : World) (o : Obj) : (w.alloc o).heap.size = w.heap.size + 1 := Array.size_push _
theorem size_setCell' (w : World) (a : Addr) (v : Value) : (w.setCell a v).heap.size = w.heap.size := by simp [World.setCell]
/-- Only the matrix' blocks may differ from the start's. -/
theorem below_alloc_set {w0 w : World} (h : Below w0.heap.size w0 w) (o : Obj) {b : Nat} (hb : w0.heap.size ≤ b) (i : Nat) (v : Value) : Below w0.heap.size w0 ((w.alloc o).setCell ⟨b, i, none⟩ v) := Below.setCell (below_alloc h o) (p := ⟨b, i, none⟩) hb v
/-- The first row and the rest do not fit. -/
def newBad (first rest : List Int) : Bool := decide (first.length = 0) || decide (rest.length ≠ offs first.length first.length)
theorem newBad_iff {first rest : List Int} : newBad first rest = true ↔ (first.length = 0 ∨ rest.length ≠ offs first.length first.length) := by simp [newBad]
end Go.Proofs.Ytejeelpnmdfibaa.Hw
end
section
/-
  rest of package tapeshift, proved by hand.
-/
namespace Go.Proofs.Ytejeelpnmdfibaa.Hw
open Go.RowKit Go.Proofs.Ytejeelpnmdfibaa.Pr Go.Proofs.YtejeelpnmdfibaaW.PrintWords Go.Proofs.YtejeelpnmdfibaaW.PrintLast Go.Proofs.YtejeelpnmdfibaaW.PrintMore Go.Proofs.Ytejeelpnmdfibaa.E
set_option linter.unusedVariables false
set_option linter.unusedSimpArgs false

/-- What the inner loop appends yet: n words from column j on, the next word of l being the q-th. -/
def movJ (p k : Int) (z l : List Int) : Nat → Nat → Nat → List Int
  | 0, _, _ => []
  | n + 1, j, q => ((rd l (q : Int) + k * rd z (j : Int) % p) % p) :: movJ p k z l n (j + 1) (q + 1)
def movI (p d : Int) (t : Nat) (z l : List Int) : Nat → Nat → Nat → List Int
  | 0, _, _ => []
  | n + 1, i, q => movJ p (d * rd z (i : Int) % p) z l (t + 1 - i) i q ++ movI p d t z l n (i + 1) (q + (t + 1 - i))
theorem movJ_length (p k : Int) (z l : List Int) : ∀ n j q, (movJ p k z l n j q).length = n
  | 0, _, _ => rfl
  | n + 1, j, q => by rw [movJ, List.length_cons, movJ_length p k z l n]
/-- make with length 0. -/
theorem mk_run0 {t e : TypeId} {z : Value} {b : Nat} (ht : Try.prog.underlying t = some (.slice e)) (hinfo : (Try.prog.info? e).map (fun i => (i.zero, i.size, i.bytes)) = some (some z, 1, b)) (hz : z.cells = #[z]) (n : Nat) (hn : n ≤ 1000000) (hb : b ≤ 100) (w : World) :
    (Instr.makeSlice t (.int .i64 0) (.int .i64 (n : Int))).run Try.prog w = .ok (.slice (some ⟨w.heap.size, 0, none⟩) 0 n) (w.alloc (.cells (List.replicate n z).toArray e)) := by
  obtain ⟨i0, hi, hzz⟩ := Option.map_eq_some_iff.1 hinfo
  simp only [Prod.mk.injEq] at hzz
  obtain ⟨hz0, hz1, hz2⟩ := hzz
  have hr := run_make (P := Try.prog) w t e i0 z ht hi hz0 .i64 .i64 (0 : Int) (n : Int) (by omega) (by omega)
    (by
      have h3 : ((i0.bytes * n : Nat) : Int) ≤ 281474976710656 := by
        have : i0.bytes * n ≤ 100 * 1000000 := Nat.mul_le_mul (by omega) hn
        omega
      rwa [Int.natCast_mul] at h3) (by omega)
  simp only [Int.toNat_natCast] at hr
  rw [hz1, Nat.mul_one, hz] at hr
  rw [show Int.toNat 0 = 0 from rfl] at hr
  rw [hr]
  have e : madeCells #[z] n = (List.replicate n z).toArray := by
    apply Array.ext'
    rw [toList_madeCells_one]
  rw [e]
/-- An empty slice with room. -/
theorem room_own (w : World) (n : Nat) (hn : n ≤ 1000000) (base : Nat) (hb : base ≤ w.heap.size) : Kd.R (Kd.int .u64) 22 (w.alloc (.cells (List.replicate n (Value.int .u64 0)).toArray 22)) base (fun _ => True) (.slice (some ⟨w.heap.size, 0, none⟩) 0 n) ([] : List Int) := by
  refine R_made ?_ (fun _ _ => trivial)
  refine ⟨rfl, .inr ⟨w.heap.size, n, (List.replicate n (Value.int .u64 0)).toArray, rfl, hb, blk_new w _, Nat.zero_le _, by simp only [maxLen]; omega, by rw [List.size_toArray, List.length_replicate]; omega, ?_⟩⟩
  simp [nums]
set_option maxHeartbeats 4000000 in
set_option maxRecDepth 100000 in
theorem rest_walk {p : Int} (hp : Supp p) (t : Nat) (ht : t ≤ 20) {d : Int} (hd : Res p d) (A0 : Option Addr) (c0 : Nat) (z : List Int) (A2 : Option Addr) (c2 : Nat) (l : List Int) (w : World)
    (hr0 : Kd.C (Kd.int .u64) w A0 z.length z) (hc0 : z.length ≤ c0) (hr2 : Kd.C (Kd.int .u64) w A2 l.length l) (hc2 : l.length ≤ c2)
    (hz : ∀ i : Nat, i ≤ t → Res p (rd z (i : Int))) (hzl : t < z.length) (hlr : ∀ i : Nat, i < l.length → Res p (rd l (i : Int))) (hll : (movI p d t z l t 1 0).length ≤ l.length) (hl2 : l.length ≤ 1000) :
    Calls Try.prog 45 #[.agg #[.int .u64 p, .int .i64 (t : Int), .slice A0 z.length c0], .int .u64 d, .slice A2 l.length c2] w fun e w' => ∃ v0_ : Value, e = .returned (v0_) ∧ Kd.R (Kd.int .u64) 22 w' w.heap.size (fun _ => True) v0_ (movI p d t z l t 1 0) ∧ Below w.heap.size w w' := by
  have HR0 := Aside0.mk hr0
  have HR2 := Aside0.mk hr2
  have HZ := Aside0.mk hz
  have HLR := Aside0.mk hlr
  have HLL := Aside0.mk hll
  have hu := Try.underlying59
  obtain ⟨ad, e0, _⟩ := Kd.at_int hr0 (0 : Int) (by omega) (by omega)
  subst e0
  clear hr0 hr2 hz hlr hll
  go_enter Try.func45, Try.ntmps45
  go_wp2_with (first
    | ((with_reducible refine gate_dst (N := 3) rfl ?_); refine box_event ?hg (N := 3) ?hd (cs := #[.int .u64 p, .int .i64 (t : Int), .slice (some ad) z.length c0]) (t := 59) ?hr ?_; (case hd => rfl); (case hg => rfl); (case hr => first | (go_simp; done) | (go_simp; rfl)); intro gb hgb w4 hbox hb4; have GB := Aside0.mk hgb; have BK4 := Aside0.mk hbox; have HB4 := Aside0.mk hb4; have hmk := mk_run0 (t := 26) (e := 22) (z := .int .u64 0) Try.underlying26 info22 rfl l.length (by omega) (by decide) w4; clear hbox hb4 hgb))
  have HB5 := Aside0.mk (below_alloc HB4.out (.cells (List.replicate l.length (Value.int .u64 0)).toArray 22))
  have BK5 := Aside0.mk (blk_alloc BK4.out (.cells (List.replicate l.length (Value.int .u64 0)).toArray 22))
  have HO5 := Aside0.mk (room_own w4 l.length (by omega) w.heap.size (below_size HB4.out))
  have HGB := Aside0.mk (show w.heap.size ≤ gb by rw [GB.out]; exact Nat.le_refl _)
  clear hmk BK4 HB4 GB
  go_loopg [7, 8, 9, 10] t (fun kq v7 v8 v9 v10 w' => ∃ (i : Nat) (dn : List Int), v8 = .int .i64 (i : Int) ∧ Aside0 (kq + i = t + 1 ∧ 1 ≤ i) ∧ Aside0 (dn ++ movI p d t z l (t + 1 - i) i dn.length = movI p d t z l t 1 0) ∧ Aside0 (Kd.R (Kd.int .u64) 22 w' w.heap.size (fun _ => True) v7 dn) ∧ Aside0 (w'.heap[gb]? = some (.cells #[.int .u64 p, .int .i64 (t : Int), .slice (some ad) z.length c0] 59 (0, 0))) ∧ Aside0 (Below w.heap.size w w'))
  case atStart => exact ⟨1, [], rfl, ⟨rfl, Nat.le_refl _⟩, ⟨rfl⟩, HO5, BK5, HB5⟩
  case round =>
    clear HO5 BK5 HB5
    obtain ⟨i, dn, rfl, HK, HD, HO, BK, HB⟩ := hrel
    have c0' := blk_cell BK.out 0
    have c1' := blk_cell BK.out 1
    have c2' := blk_cell BK.out 2
    simp only [List.getElem?_toArray, List.getElem?_cons_zero, List.getElem?_cons_succ] at c0' c1' c2'
    obtain ⟨hk0, hk1⟩ := HK.out
    by_cases hlt : i ≤ t
    · have q1 : decide ((i : Int) ≤ (t : Int)) = true := decide_eq_true (by omega)
      have q2 : decide (i ≤ t) = true := decide_eq_true hlt
      have p1 : ((0 : Int) ≤ (i : Int)) = True := eq_true (by omega)
      have p2 : ((i : Int) < (z.length : Int)) = True := eq_true (by omega)
      obtain ⟨ad', e, hy⟩ := Kd.at_int (Kd.C_below HR0.out HB.out) (i : Int) (by omega) (by omega)
      obtain rfl := Option.some.inj e
      rw [Int.toNat_natCast] at hy
      obtain ⟨kk, hkk⟩ := (mul_ev hp hd (HZ.out i hlt)).rounds
      have HKK := Aside0.mk hkk
      obtain ⟨k, hke⟩ : ∃ y, y = d * rd z (i : Int) % p := ⟨_, rfl⟩
      rw [← hke] at HKK
      have HKR := Aside0.mk (show Res p k by rw [hke]; exact Res.mod hp _)
      have hrun : t + 1 - i = (t + 1 - (i + 1)) + 1 := by omega
      have HE := Aside0.mk (show dn ++ (movJ p k z l (t + 1 - i) i dn.length ++ movI p d t z l (t + 1 - (i + 1)) (i + 1) (dn.length + (t + 1 - i))) = movI p d t z l t 1 0 by rw [← HD.out]; conv => rhs; rw [hrun, movI, ← hke])
      clear hkk hke hrun
      go_wp2
      refine wp_region_quiet_tail_drawn 9 (by kernel_rfl) (by kernel_rfl) ?_
      simp only [List.take_succ_cons, List.take_zero, List.drop_succ_cons, List.drop_zero]
      repeat (quiet_step ((refine Calls.quiet_of ((field_Mul.calls kk _ _ _ k _ HKK.out).mono fun e w' h => ⟨h.1, h.2.out⟩))))
      refine wpQuiet_nil ?_
      rintro _ ⟨nq, rfl⟩
      go_wp2
      have HD2 := Aside0.mk (show dn ++ (movJ p k z l (t + 1 - i) i dn.length ++ movI p d t z l (t + 1 - (i + 1)) (i + 1) (dn.length + (t + 1 - i))) = movI p d t z l t 1 0 from HE.out)
      have HO6 := Aside0.mk (Kd.R_drewN HO.out nq)
      have BK6 := Aside0.mk (blk_drewN BK.out nq)
      have HB6 := Aside0.mk (pw_below_drewN HB.out nq)
      have HI := Aside0.mk (And.intro hk1 hlt)
      clear HD HE HO BK HB hk0 hk1 hlt hy c0' c1' c2' p1 p2 q1 q2
      go_loopg [7, 10] (t + 1 - i) (fun kq v7 v10 w' => ∃ (j : Nat) (dm : List Int), v10 = .int .i64 (j : Int) ∧ Aside0 (kq + j = t + 1 ∧ i ≤ j) ∧ Aside0 (dm ++ (movJ p k z l (t + 1 - j) j dm.length ++ movI p d t z l (t + 1 - (i + 1)) (i + 1) (dm.length + (t + 1 - j))) = movI p d t z l t 1 0) ∧ Aside0 (Kd.R (Kd.int .u64) 22 w' w.heap.size (fun _ => True) v7 dm) ∧ Aside0 (w'.heap[gb]? = some (.cells #[.int .u64 p, .int .i64 (t : Int), .slice (some ad) z.length c0] 59 (0, 0))) ∧ Aside0 (Below w.heap.size w w'))
      case atStart => exact ⟨i, dn, rfl, ⟨by have := HI.out; omega, Nat.le_refl _⟩, HD2, HO6, BK6, HB6⟩
      case round =>
        clear HD2 HO6 BK6 HB6
        obtain ⟨j, dm, rfl, HK2, HD, HO, BK, HB⟩ := hrel
        have c0' := blk_cell BK.out 0
        have c1' := blk_cell BK.out 1
        have c2' := blk_cell BK.out 2
        simp only [List.getElem?_toArray, List.getElem?_cons_zero, List.getElem?_cons_succ] at c0' c1' c2'
        obtain ⟨hk0, hk1⟩ := HK2.out
        obtain ⟨hi1, hi2⟩ := HI.out
        by_cases hlt : j ≤ t
        · have q1 : decide ((j : Int) ≤ (t : Int)) = true := decide_eq_true (by omega)
          have q2 : decide (j ≤ t) = true := decide_eq_true hlt
          have hrun : t + 1 - j = (t + 1 - (j + 1)) + 1 := by omega
          have hD := HD.out
          have hdl : dm.length < l.length := by
            have h1 := congrArg List.length hD
            rw [List.length_append, List.length_append, movJ_length] at h1
            have := HLL.out
            omega
          have p1 : ((0 : Int) ≤ (j : Int)) = True := eq_true (by omega)
          have p2 : ((j : Int) < (z.length : Int)) = True := eq_true (by omega)
          have p3 : ((0 : Int) ≤ (dm.length : Int)) = True := eq_true (by omega)
          have p4 : ((dm.length : Int) < (l.length : Int)) = True := eq_true (by omega)
          obtain ⟨ad', e, hy⟩ := Kd.at_int (Kd.C_below HR0.out HB.out) (j : Int) (by omega) (by omega)
          obtain rfl := Option.some.inj e
          obtain ⟨ad2, e2, hy2⟩ := Kd.at_int (Kd.C_below HR2.out HB.out) (dm.length : Int) (by omega) (by omega)
          cases e2
          rw [Int.toNat_natCast] at hy hy2
          obtain ⟨k1, hk1'⟩ := (mul_ev hp HKR.out (HZ.out j hlt)).rounds
          obtain ⟨k2, hk2'⟩ := (add_ev hp (HLR.out dm.length hdl) (Res.mod hp (k * rd z (j : Int)))).rounds
          have HE := Aside0.mk (show (dm ++ [(rd l (dm.length : Int) + k * rd z (j : Int) % p) % p]) ++ (movJ p k z l (t + 1 - (j + 1)) (j + 1) (dm.length + 1) ++ movI p d t z l (t + 1 - (i + 1)) (i + 1) (dm.length + 1 + (t + 1 - (j + 1)))) = movI p d t z l t 1 0 by
            rw [← hD]
            conv => rhs; rw [hrun, movJ]
            rw [show dm.length + 1 + (t + 1 - (j + 1)) = dm.length + (t + 1 - (j + 1) + 1) from by omega]
            simp)
          obtain ⟨zk, hzk⟩ : ∃ y, y = k * rd z (j : Int) % p := ⟨_, rfl⟩
          rw [← hzk] at hk1' hk2' HE
          obtain ⟨x, hx⟩ : ∃ y, y = (rd l (dm.length : Int) + zk) % p := ⟨_, rfl⟩
          rw [← hx] at hk2' HE
          have HK1 := Aside0.mk hk1'
          have HK2' := Aside0.mk hk2'
          obtain ⟨m1, hm1⟩ : ∃ y : List Int, y = dm ++ [x] := ⟨_, rfl⟩
          rw [← hm1] at HE
          have NM := Aside0.mk hm1
          have HDL := Aside0.mk hdl
          obtain ⟨A7, c7, rfl⟩ := Kd.R_slice HO.out
          clear hrun hD hzk hx hk1' hk2' hm1 hdl HD
          go_wp2
          refine start_ (n := 21) (S := (fun w' => w'.cell? ⟨gb, 0, none⟩ = some (.int .u64 p) ∧ w'.cell? ⟨gb, 2, none⟩ = some (.slice (some ad) z.length c0) ∧ w'.cell? (ad2.add dm.length) = some (.int .u64 (rd l (dm.length : Int))) ∧ w'.cell? (ad.add j) = some (.int .u64 (rd z (j : Int))))) (ds := []) #[false, false, false, false, false, false, false, false, false, false, false, false, false, false, false, false, false, false, false, false, false] (by kernel_rfl) rfl rfl ⟨c0', c2', hy2, hy⟩ (fun hHeld => ?_)
          refine pure_ (i := 0) (N := some 36) (v := ?_) (a' := ?_) #[true, false, false, false, false, false, false, false, false, false, false, false, false, false, false, false, false, false, false, false, false] rfl rfl (by kernel_rfl) (fun _ _ _ h => h) (Or.inl ⟨by rfl, ?_⟩) ?_ ?_
          rotate_left
          · intro w'
            go_simp
            with_reducible rfl
          rotate_left
          · simp only [Act.put, List.setIfInBounds_toArray, List.set_cons_zero, List.set_cons_succ, i64_w, i32_w]
            rfl
          refine pure_ (i := 1) (N := some 37) (v := ?_) (a' := ?_) #[true, true, false, false, false, false, false, false, false, false, false, false, false, false, false, false, false, false, false, false, false] rfl rfl (by kernel_rfl) (fun _ _ _ h => h) (Or.inl ⟨by rfl, ?_⟩) ?_ ?_
          rotate_left
          · intro w'
            go_simp
            with_reducible rfl
          rotate_left
          · simp only [Act.put, List.setIfInBounds_toArray, List.set_cons_zero, List.set_cons_succ, i64_w, i32_w]
            rfl
          refine take_ (i := 2) (N := some 38) (v := ?_) (a' := ?_) #[true, true, true, false, false, false, false, false, false, false, false, false, false, false, false, false, false, false, false, false, false] rfl rfl (by kernel_rfl) (fun _ _ _ h => h) (Or.inl ⟨by rfl, ?_⟩) hHeld ?_ ?_
          rotate_left
          · rintro w' ⟨s0, s1, s2, s3⟩
            go_simp
            with_reducible rfl
          rotate_left
          · simp only [Act.put, List.setIfInBounds_toArray, List.set_cons_zero, List.set_cons_succ, i64_w, i32_w]
            rfl
          refine pure_ (i := 3) (N := some 39) (v := ?_) (a' := ?_) #[true, true, true, true, false, false, false, false, false, false, false, false, false, false, false, false, false, false, false, false, false] rfl rfl (by kernel_rfl) (fun _ _ _ h => h) (Or.inl ⟨by rfl, ?_⟩) ?_ ?_
          rotate_left
          · intro w'
            go_simp
            with_reducible rfl
          rotate_left
          · simp only [Act.put, List.setIfInBounds_toArray, List.set_cons_zero, List.set_cons_succ, i64_w, i32_w]
            rfl
          refine pure_ (i := 4) (N := some 40) (v := ?_) (a' := ?_) #[true, true, true, true, true, false, false, false, false, false, false, false, false, false, false, false, false, false, false, false, false] rfl rfl (by kernel_rfl) (fun _ _ _ h => h) (Or.inl ⟨by rfl, ?_⟩) ?_ ?_
          rotate_left
          · intro w'
            go_simp
            with_reducible rfl
          rotate_left
          · simp only [Act.put, List.setIfInBounds_toArray, List.set_cons_zero, List.set_cons_succ, i64_w, i32_w]
            rfl
          refine pure_ (i := 5) (N := some 41) (v := ?_) (a' := ?_) #[true, true, true, true, true, true, false, false, false, false, false, false, false, false, false, false, false, false, false, false, false] rfl rfl (by kernel_rfl) (fun _ _ _ h => h) (Or.inl ⟨by rfl, ?_⟩) ?_ ?_
          rotate_left
          · intro w'
            go_simp
            with_reducible rfl
          rotate_left
          · simp only [Act.put, List.setIfInBounds_toArray, List.set_cons_zero, List.set_cons_succ, i64_w, i32_w]
            rfl
          refine pure_ (i := 6) (N := some 42) (v := ?_) (a' := ?_) #[true, true, true, true, true, true, true, false, false, false, false, false, false, false, false, false, false, false, false, false, false] rfl rfl (by kernel_rfl) (fun _ _ _ h => h) (Or.inl ⟨by rfl, ?_⟩) ?_ ?_
          rotate_left
          · intro w'
            go_simp
            with_reducible rfl
          rotate_left
          · simp only [Act.put, List.setIfInBounds_toArray, List.set_cons_zero, List.set_cons_succ, i64_w, i32_w]
            rfl
          refine take_ (i := 7) (N := some 43) (v := ?_) (a' := ?_) #[true, true, true, true, true, true, true, true, false, false, false, false, false, false, false, false, false, false, false, false, false] rfl rfl (by kernel_rfl) (fun _ _ _ h => h) (Or.inl ⟨by rfl, ?_⟩) hHeld ?_ ?_
          rotate_left
          · rintro w' ⟨s0, s1, s2, s3⟩
            go_simp
            with_reducible rfl
          rotate_left
          · simp only [Act.put, List.setIfInBounds_toArray, List.set_cons_zero, List.set_cons_succ, i64_w, i32_w]
            rfl
          refine pure_ (i := 8) (N := some 44) (v := ?_) (a' := ?_) #[true, true, true, true, true, true, true, true, true, false, false, false, false, false, false, false, false, false, false, false, false] rfl rfl (by kernel_rfl) (fun _ _ _ h => h) (Or.inl ⟨by rfl, ?_⟩) ?_ ?_
          rotate_left
          · intro w'
            go_simp
            with_reducible rfl
          rotate_left
          · simp only [Act.put, List.setIfInBounds_toArray, List.set_cons_zero, List.set_cons_succ, i64_w, i32_w]
            rfl
          refine take_ (i := 9) (N := some 45) (v := ?_) (a' := ?_) #[true, true, true, true, true, true, true, true, true, true, false, false, false, false, false, false, false, false, false, false, false] rfl rfl (by kernel_rfl) (fun _ _ _ h => h) (Or.inl ⟨by rfl, ?_⟩) hHeld ?_ ?_
          rotate_left
          · rintro w' ⟨s0, s1, s2, s3⟩
            go_simp
            with_reducible rfl
          rotate_left
          · simp only [Act.put, List.setIfInBounds_toArray, List.set_cons_zero, List.set_cons_succ, i64_w, i32_w]
            rfl
          refine pure_ (i := 10) (N := some 46) (v := ?_) (a' := ?_) #[true, true, true, true, true, true, true, true, true, true, true, false, false, false, false, false, false, false, false, false, false] rfl rfl (by kernel_rfl) (fun _ _ _ h => h) (Or.inl ⟨by rfl, ?_⟩) ?_ ?_
          rotate_left
          · intro w'
            go_simp
            with_reducible rfl
          rotate_left
          · simp only [Act.put, List.setIfInBounds_toArray, List.set_cons_zero, List.set_cons_succ, i64_w, i32_w]
            rfl
          refine pure_ (i := 11) (N := some 47) (v := ?_) (a' := ?_) #[true, true, true, true, true, true, true, true, true, true, true, true, false, false, false, false, false, false, false, false, false] rfl rfl (by kernel_rfl) (fun _ _ _ h => h) (Or.inl ⟨by rfl, ?_⟩) ?_ ?_
          rotate_left
          · intro w'
            go_simp
            with_reducible rfl
          rotate_left
          · simp only [Act.put, List.setIfInBounds_toArray, List.set_cons_zero, List.set_cons_succ, i64_w, i32_w]
            rfl
          refine take_ (i := 12) (N := some 48) (v := ?_) (a' := ?_) #[true, true, true, true, true, true, true, true, true, true, true, true, true, false, false, false, false, false, false, false, false] rfl rfl (by kernel_rfl) (fun _ _ _ h => h) (Or.inl ⟨by rfl, ?_⟩) hHeld ?_ ?_
          rotate_left
          · rintro w' ⟨s0, s1, s2, s3⟩
            go_simp
            with_reducible rfl
          rotate_left
          · simp only [Act.put, List.setIfInBounds_toArray, List.set_cons_zero, List.set_cons_succ, i64_w, i32_w]
            rfl
          refine pure_ (i := 13) (N := some 49) (v := ?_) (a' := ?_) #[true, true, true, true, true, true, true, true, true, true, true, true, true, true, false, false, false, false, false, false, false] rfl rfl (by kernel_rfl) (fun _ _ _ h => h) (Or.inl ⟨by rfl, ?_⟩) ?_ ?_
          rotate_left
          · intro w'
            go_simp
            with_reducible rfl
          rotate_left
          · simp only [Act.put, List.setIfInBounds_toArray, List.set_cons_zero, List.set_cons_succ, i64_w, i32_w]
            rfl
          refine pure_ (i := 14) (N := some 50) (v := ?_) (a' := ?_) #[true, true, true, true, true, true, true, true, true, true, true, true, true, true, true, false, false, false, false, false, false] rfl rfl (by kernel_rfl) (fun _ _ _ h => h) (Or.inl ⟨by rfl, ?_⟩) ?_ ?_
          rotate_left
          · intro w'
            go_simp
            with_reducible rfl
          rotate_left
          · simp only [Act.put, List.setIfInBounds_toArray, List.set_cons_zero, List.set_cons_succ, i64_w, i32_w]
            rfl
          refine take_ (i := 15) (N := some 51) (v := ?_) (a' := ?_) #[true, true, true, true, true, true, true, true, true, true, true, true, true, true, true, true, false, false, false, false, false] rfl rfl (by kernel_rfl) (fun _ _ _ h => h) (Or.inl ⟨by rfl, ?_⟩) hHeld ?_ ?_
          rotate_left
          · rintro w' ⟨s0, s1, s2, s3⟩
            go_simp
            with_reducible rfl
          rotate_left
          · simp only [Act.put, List.setIfInBounds_toArray, List.set_cons_zero, List.set_cons_succ, i64_w, i32_w]
            rfl
          refine one_ (i := 16) (N := some 52) #[true, true, true, true, true, true, true, true, true, true, true, true, true, true, true, true, true, false, false, false, false] rfl rfl (by kernel_rfl) (by decide) (fun K hK => ?_)
          refine goes_ Try.func70 (by kernel_rfl) rfl #[.int .u64 p, .int .u64 k, .int .u64 (rd z (j : Int))] (by rfl) rfl rfl (by (try simp only [List.map_toArray, List.map_cons, List.map_nil]); first | done | rfl | (simp only [List.length_drop, List.length_take]; rfl)) ?_
          with_reducible refine (field_Mul.calls k1 _ _ _ zk _ HK1.out).mono ?_
          rintro e w' ⟨rfl, ⟨nd, rfl⟩⟩
          refine ⟨_, rfl, ?_⟩
          refine hK.out _ _ ⟨c0', c2', hy2, hy⟩ (fun hHeld => ?_)
          clear hK K
          refine norm_ (a' := ?_) ?_ ?_
          rotate_left
          · show Act.put _ (some 52) _ = _
            simp only [Act.put, List.setIfInBounds_toArray, List.set_cons_zero, List.set_cons_succ, i64_w, i32_w]
            rfl
          refine one_ (i := 17) (N := some 53) #[true, true, true, true, true, true, true, true, true, true, true, true, true, true, true, true, true, true, false, false, false] rfl rfl (by kernel_rfl) (by decide) (fun K hK => ?_)
          refine goes_ Try.func69 (by kernel_rfl) rfl #[.int .u64 p, .int .u64 (rd l (dm.length : Int)), .int .u64 zk] (by rfl) rfl rfl (by (try simp only [List.map_toArray, List.map_cons, List.map_nil]); first | done | rfl | (simp only [List.length_drop, List.length_take]; rfl)) ?_
          with_reducible refine (field_Add.calls k2 _ _ _ x _ HK2'.out).mono ?_
          rintro e w' ⟨rfl, ⟨ne, rfl⟩⟩
          refine ⟨_, rfl, ?_⟩
          refine hK.out _ _ ⟨c0', c2', hy2, hy⟩ (fun hHeld => ?_)
          clear hK K
          refine norm_ (a' := ?_) ?_ ?_
          rotate_left
          · show Act.put _ (some 53) _ = _
            simp only [Act.put, List.setIfInBounds_toArray, List.set_cons_zero, List.set_cons_succ, i64_w, i32_w]
            rfl
          refine one_ (i := 18) (N := some 54) #[true, true, true, true, true, true, true, true, true, true, true, true, true, true, true, true, true, true, true, false, false] rfl rfl (by kernel_rfl) (by decide) (fun K hK => ?_)
          refine value_ (w1 := ?_) (v := ?_) (by rfl) rfl ?_ ?_
          rotate_left 2
          · go_simp
            constructor
            · rfl
            · rfl
          refine hK.out _ _ ⟨cell_alloc_of (n := 1) c0' _, cell_alloc_of (n := 1) c2' _, cell_alloc_of (n := 1) hy2 _, cell_alloc_of (n := 1) hy _⟩ (fun hHeld => ?_)
          clear hK K
          refine norm_ (a' := ?_) ?_ ?_
          rotate_left
          · show Act.put _ (some 54) _ = _
            simp only [Act.put, List.setIfInBounds_toArray, List.set_cons_zero, List.set_cons_succ, i64_w, i32_w]
            rfl
          refine one_ (i := 19) (N := some 55) #[true, true, true, true, true, true, true, true, true, true, true, true, true, true, true, true, true, true, true, true, false] rfl rfl (by kernel_rfl) (by decide) (fun K hK => ?_)
          refine Kd.R_append_step (Kd.int .u64) (w0 := w) w.heap.size (by rfl) (.tmp 36) (.tmp 54) 26 22 (.int .u64 0) 8 rfl Try.underlying26 info22 rfl (by decide) (by omega) (.slice A7 dm.length c7) dm x [.int .u64 x] (fun _ => True) (fun _ => False) rfl rfl ?aP (fun _ hk => hk.elim) ?aF ?aO ?aB ?aS ?aL ?_
          (case aP => exact rfl)
          (case aB => exact (by repeat (first | (with_reducible first | exact HB.out | apply below_alloc | apply pw_below_drewN | apply below_drew1) | exact HB.out)))
          (case aF => exact (fun _ _ => trivial))
          (case aO => exact (by (with_reducible repeat (first | apply Kd.R_alloc | apply Kd.R_drewN | apply Kd.R_drew)); exact HO.out))
          (case aS => exact (below_size (by repeat (first | (with_reducible first | exact HB.out | apply below_alloc | apply pw_below_drewN | apply below_drew1) | exact HB.out))))
          (case aL => have := HDL.out; omega)
          intro v2 w2 ho hb hg hat
          have hbk : w2.heap[gb]? = some (.cells #[.int .u64 p, .int .i64 (t : Int), .slice (some ad) z.length c0] 59 (0, 0)) := blk_grown (by first | exact BK.out | exact blk_drewN BK.out _) hg (Kd.R_ne HO.out BK.out (by decide))
          rw [← NM.out] at ho
          have hcz : w2.cell? (ad.add j) = some (.int .u64 (rd z (j : Int))) := by
            obtain ⟨_, e3, h3⟩ := Kd.at_int (Kd.C_below HR0.out hb) (j : Int) (by omega) (by omega)
            cases e3
            rw [Int.toNat_natCast] at h3
            exact h3
          have hcl : w2.cell? (ad2.add dm.length) = some (.int .u64 (rd l (dm.length : Int))) := by
            obtain ⟨_, e3, h3⟩ := Kd.at_int (Kd.C_below HR2.out hb) (dm.length : Int) (by omega) (by have := HDL.out; omega)
            cases e3
            rw [Int.toNat_natCast] at h3
            exact h3
          have hc0 := blk_cell hbk 0
          have hc2 := blk_cell hbk 2
          simp only [List.getElem?_toArray, List.getElem?_cons_zero, List.getElem?_cons_succ] at hc0 hc2
          refine hK.out _ _ ⟨hc0, hc2, hcl, hcz⟩ (fun hHeld => ?_)
          clear hK K
          refine norm_ (a' := ?_) ?_ ?_
          rotate_left
          · show Act.put _ (some 55) _ = _
            simp only [Act.put, List.setIfInBounds_toArray, List.set_cons_zero, List.set_cons_succ, i64_w, i32_w]
            rfl
          refine pure_ (i := 20) (N := some 7) (v := ?_) (a' := ?_) #[true, true, true, true, true, true, true, true, true, true, true, true, true, true, true, true, true, true, true, true, true] rfl rfl (by kernel_rfl) (fun _ _ _ h => h) (Or.inl ⟨by rfl, ?_⟩) ?_ ?_
          rotate_left
          · intro w'
            go_simp
            with_reducible rfl
          rotate_left
          · simp only [Act.put, List.setIfInBounds_toArray, List.set_cons_zero, List.set_cons_succ, i64_w, i32_w]
            rfl
          refine done_ (by kernel_rfl) ?_
          have HO2 := Aside0.mk ho
          have HB2 := Aside0.mk hb
          have BK2 := Aside0.mk hbk
          clear ho hb hg hat hbk hcz hcl hc0 hc2
          go_wp2
          go_roundg (t - j)
          case measure => omega
          case rel => exact ⟨j + 1, m1, by go_num, ⟨by omega⟩, ⟨by
            have h1 := HE.out
            rw [show m1.length = dm.length + 1 from by rw [NM.out]; simp]
            exact h1⟩, HO2, BK2, HB2⟩
        · have q1 : decide ((j : Int) ≤ (t : Int)) = false := decide_eq_false (by omega)
          have q2 : decide (j ≤ t) = false := decide_eq_false hlt
          have HE := Aside0.mk (show dm ++ movI p d t z l (t + 1 - (i + 1)) (i + 1) dm.length = movI p d t z l t 1 0 by
            rw [← HD.out, show t + 1 - j = 0 from by omega]
            simp [movJ])
          clear HD
          go_wp2
          go_roundg (t - i)
          case measure => have := HK.out; omega
          case rel => exact ⟨i + 1, dm, by go_num, ⟨by have := HK.out; omega⟩, HE, HO, BK, HB⟩
    · have q1 : decide ((i : Int) ≤ (t : Int)) = false := decide_eq_false (by omega)
      have q2 : decide (i ≤ t) = false := decide_eq_false hlt
      have hz0 : t + 1 - i = 0 := by omega
      have HE := Aside0.mk (show dn = movI p d t z l t 1 0 by rw [← HD.out, hz0]; simp [movI])
      clear hz0
      go_wp2
      first | go_ret | ((try simp only [Exit.inBlock, Exit.then]); refine bodyPost_ret (results_tmp rfl _ _ rfl) rfl ?_)
      exact ⟨_, rfl, by rw [← HE.out]; exact HO.out, HB.out⟩
def tapeshift_mover_rest.f (a0 a1 : Int) (z : List Int) (d : Int) (l : List Int) : Option (List Int) :=
  if supB a0 = true then (if 0 ≤ a1 then (if a1 ≤ 20 then (if resB a0 d = true then (if ressB a0 z = true then (if a1 < z.length then (if ressB a0 l = true then (if (movI a0 d a1.toNat z l a1.toNat 1 0).length ≤ l.length then (if l.length ≤ 1000 then some (movI a0 d a1.toNat z l a1.toNat 1 0) else none) else none) else none) else none) else none) else none) else none) else none) else none
theorem tapeshift_mover_rest.calls (a0 a1 : Int) (A0 : Option Addr) (c0 : Nat) (z : List Int) (d : Int) (A2 : Option Addr) (c2 : Nat) (l r : List Int) (w : World) (hr0 : Kd.C (Kd.int .u64) w A0 z.length z) (hc0 : z.length ≤ c0) (hr2 : Kd.C (Kd.int .u64) w A2 l.length l) (hc2 : l.length ≤ c2) (h : tapeshift_mover_rest.f a0 a1 z d l = some r) :
    Calls Try.prog 45 #[.agg #[.int .u64 a0, .int .i64 a1, .slice A0 z.length c0], .int .u64 d, .slice A2 l.length c2] w fun e w' => ∃ v0_ : Value, e = .returned (v0_) ∧ Kd.R (Kd.int .u64) 22 w' w.heap.size (fun _ => True) v0_ r ∧ Below w.heap.size w w' := by
  unfold tapeshift_mover_rest.f at h
  obtain ⟨h1, h⟩ := ifs h
  obtain ⟨h2, h⟩ := ifs h
  obtain ⟨h3, h⟩ := ifs h
  obtain ⟨h4, h⟩ := ifs h
  obtain ⟨h5, h⟩ := ifs h
  obtain ⟨h6, h⟩ := ifs h
  obtain ⟨h7, h⟩ := ifs h
  obtain ⟨h8, h⟩ := ifs h
  obtain ⟨h9, h⟩ := ifs h
  rw [← Option.some.inj h]
  have e : ((a1.toNat : Nat) : Int) = a1 := Int.toNat_of_nonneg h2
  have hg := rest_walk (supB_of h1) a1.toNat (by omega) (resB_iff.1 h4) A0 c0 z A2 c2 l w hr0 hc0 hr2 hc2 (fun i hi => rd_res (ressB_iff.1 h5) i (by omega)) (by omega) (fun i hi => rd_res (ressB_iff.1 h7) i hi) h8 h9
  rw [e] at hg
  exact hg
end Go.Proofs.Ytejeelpnmdfibaa.Hw
end
section
/- Printed by a program of this seat (the kit's printer, with the functions that were proved by hand given to it). What stands here: the functions that the statements reach, as plain functions, and that the Go code computes them. -/
namespace Go.Proofs.Ytejeelpnmdfibaa.Pr
open Go.RowKit Go.Proofs.YtejeelpnmdfibaaW.PrintWords Go.Proofs.YtejeelpnmdfibaaW.PrintLast Go.Proofs.YtejeelpnmdfibaaW.PrintMore
attribute [local go_sem] max2_int min2_int max_two min_two max_three min_three max_four min_four   -- for this text's walks alone
set_option linter.unusedVariables false
set_option linter.unusedSimpArgs false

open Go.Proofs.Ytejeelpnmdfibaa.Hw
/-! ### tapeshift_Sharing: function 15 -/
def tapeshift_Sharing.f (k : Nat) (a0_0 : Int) (a0_1 : Int) (a0_2 : Int) (l1 : List Int) (a2 : Int) (l3 : List Int) (l4 : List Int) : Option (List Int × List Int) := (tapeshift_of.f k a0_0 a0_1 a0_2 l1).bind fun bt214 => ((tapeshift_mover_by.f k bt214.1 bt214.2.1 bt214.2.2 a2 l3).bind fun t220 => ((tapeshift_mover_rest.f bt214.1 bt214.2.1 bt214.2.2 a2 l4).bind fun t223 => (some (t220, t223))))
theorem tapeshift_Sharing.mono : ∀ a0 a1 a2 a3 a4 a5 a6 k, LeO (tapeshift_Sharing.f k a0 a1 a2 a3 a4 a5 a6) (tapeshift_Sharing.f (k + 1) a0 a1 a2 a3 a4 a5 a6) := by
 intro a0 a1 a2 a3 a4 a5 a6 k
 unfold tapeshift_Sharing.f
 repeat' first
   | (with_reducible exact tapeshift_mover_by.mono _ _ _ _ _ _)
   | (with_reducible exact tapeshift_of.mono _ _ _ _ _)
   | (with_reducible exact LeO.refl _)
   | (with_reducible exact LeO.none _)
   | (with_reducible refine LeO.ite ?_ ?_)
   | (with_reducible refine LeO.bind ?_ (fun _ => ?_))
   | exact tapeshift_mover_by.mono _ _ _ _ _ _
   | exact tapeshift_of.mono _ _ _ _ _
   | exact LeO.none _
   | refine LeO.ite ?_ ?_
   | refine LeO.bind ?_ (fun _ => ?_)
def tapeshift_Sharing.T2 : Bool × List (List Nat × List Nat) := (true, [([], []), ([], []), ([], []), ([0, 1, 2], [0, 1, 2]), ([], []), ([], []), ([], []), ([4, 5, 6, 3], [4, 5, 6]), ([3, 7, 0, 1, 2, 3], [3]), ([7, 8, 0, 1, 2, 3, 4, 5, 6, 7, 8], [7])])
def tapeshift_Sharing.B2 : List Nat := [0, 0, 0, 7, 0, 0, 0, 127, 255, 511]
theorem tapeshift_Sharing.tab2 : rtab .any (opsOf Try.f15 2) = tapeshift_Sharing.T2 := by kernel_rfl
theorem tapeshift_Sharing.bits2 : waitsOk tapeshift_Sharing.T2.2 tapeshift_Sharing.B2 = true := by kernel_rfl
set_option maxHeartbeats 8000000 in
set_option maxRecDepth 100000 in
theorem tapeshift_Sharing.calls (k : Nat) (a0_0 : Int) (a0_1 : Int) (a0_2 : Int) (A1 : Option Addr) (c1 : Nat) (l1 : List Int) (a2 : Int) (A3 : Option Addr) (c3 : Nat) (l3 : List Int) (A4 : Option Addr) (c4 : Nat) (l4 : List Int) (r1 : List Int) (r2 : List Int) (w : World) (hr1 : Kd.C (Kd.int .i64) w A1 l1.length l1) (hc1 : l1.length ≤ c1) (hr3 : Kd.C (Kd.int .u64) w A3 l3.length l3) (hc3 : l3.length ≤ c3) (hr4 : Kd.C (Kd.int .u64) w A4 l4.length l4) (hc4 : l4.length ≤ c4) (h : tapeshift_Sharing.f k a0_0 a0_1 a0_2 l1 a2 l3 l4 = some (r1, r2)) :
  Calls Try.prog 15 #[.agg #[.int .u64 a0_0,.int .i64 a0_1,.int .i64 a0_2],.slice A1 l1.length c1,.int .u64 a2,.slice A3 l3.length c3,.slice A4 l4.length c4] w fun e w' => ∃ v0_ v1_ : Value,e = .returned (.tuple #[v0_,v1_]) ∧ Kd.R (Kd.int .u64) 22 w' w.heap.size (fun k_ => some k_ ≠ (v1_ : Value).ownBlock) v0_ r1 ∧ Kd.R (Kd.int .u64) 22 w' w.heap.size (fun k_ => some k_ ≠ (v0_ : Value).ownBlock) v1_ r2 ∧ Below w.heap.size w w' := by
 have hu24 := Try.underlying24
 have hu59 := Try.underlying59
 have HR1 := Aside0.mk hr1
 have HC1 := Aside0.mk hc1
 clear hr1 hc1
 have HR3 := Aside0.mk hr3
 have HC3 := Aside0.mk hc3
 clear hr3 hc3
 have HR4 := Aside0.mk hr4
 have HC4 := Aside0.mk hc4
 clear hr4 hc4
 have HB := Aside0.mk (Below.refl w.heap.size w)
 have H : ((tapeshift_of.f k a0_0 a0_1 a0_2 l1).bind fun bt214 => ((tapeshift_mover_by.f k bt214.1 bt214.2.1 bt214.2.2 a2 l3).bind fun t220 => ((tapeshift_mover_rest.f bt214.1 bt214.2.1 bt214.2.2 a2 l4).bind fun t223 => (some (t220,t223))))) = some (r1,r2) := h
 clear h
 replace H := Option.bind_eq_some_iff.mp H
 obtain ⟨⟨t214,t215,t216⟩,A60,H⟩ := H
 replace H : ((tapeshift_mover_by.f k t214 t215 t216 a2 l3).bind fun t220 => ((tapeshift_mover_rest.f t214 t215 t216 a2 l4).bind fun t223 => (some (t220,t223)))) = some (r1,r2) := H
 have A6 := Aside0.mk A60
 clear A60
 replace H := Option.bind_eq_some_iff.mp H
 obtain ⟨t220,A70,H⟩ := H
 replace H : ((tapeshift_mover_rest.f t214 t215 t216 a2 l4).bind fun t223 => (some (t220,t223))) = some (r1,r2) := H
 have A7 := Aside0.mk A70
 clear A70
 replace H := Option.bind_eq_some_iff.mp H
 obtain ⟨t223,A80,H⟩ := H
 replace H : (some (t220,t223)) = some (r1,r2) := H
 have A8 := Aside0.mk A80
 clear A80
 simp only [Option.some.injEq,Prod.mk.injEq] at H
 obtain ⟨rfl,rfl⟩ := H
 go_enter Try.func15,Try.ntmps15
 try go_wp2_with (first|((with_reducible refine gate_dst (N := 5) rfl ?_);refine box_event ?hg (N := 5) ?hd (cs := #[.int .u64 a0_0,.int .i64 a0_1,.int .i64 a0_2]) (t := 24) ?hr ?_;(case hd => rfl);(case hg => rfl);(case hr => first|(go_simp;done)|(go_simp;rfl));intro gb213 hg w9 hbox hb;have n0_ := Aside0.mk (below_step (by repeat (first|(with_reducible first|exact HB.out|apply below_alloc|apply pw_below_drewN|apply below_drew1)|exact HB.out)) hb);have n1_ := Aside0.mk (hbox);have n2_ := Aside0.mk ((by rw [hg];exact (below_size (by repeat (first|(with_reducible first|exact HB.out|apply below_alloc|apply pw_below_drewN|apply below_drew1)|exact HB.out))) : w.heap.size ≤ gb213));have n3_ := Aside0.mk ((by rw [hg];exact (below_size (by repeat (first|(with_reducible first|exact HB.out|apply below_alloc|apply pw_below_drewN|apply below_drew1)|exact HB.out))) : w.heap.size ≤ gb213));clear HB;have HB := n0_;have BK213 := n1_;have GW213 := n2_;have GE213 := n3_;clear n0_ n1_ n2_ n3_;clear hb hbox hg;have hcz10_0 : w9.cell? ⟨gb213,0,none⟩ = some (.int .u64 a0_0) := (blk_cell BK213.out 0).trans rfl;have hcz10_1 : w9.cell? ⟨gb213,1,none⟩ = some (.int .i64 a0_1) := (blk_cell BK213.out 1).trans rfl;have hcz10_2 : w9.cell? ⟨gb213,2,none⟩ = some (.int .i64 a0_2) := (blk_cell BK213.out 2).trans rfl;have hfz10_0 := blk_frozen BK213.out 0;have hfz10_1 := blk_frozen BK213.out 1;have hfz10_2 := blk_frozen BK213.out 2)|((with_reducible refine gate_callee (f := 43) rfl ?_);refine goesL_ (some 15) rfl rfl Try.func43 (by kernel_rfl) rfl #[.agg #[.int .u64 a0_0,.int .i64 a0_1,.int .i64 a0_2],.slice A1 l1.length c1] rfl (by (try simp only [List.map_toArray,List.map_cons,List.map_nil]);first|done|rfl|(simp only [List.length_drop,List.length_take];rfl)) ?_;(with_reducible refine (tapeshift_of.calls k a0_0 a0_1 a0_2 _ _ l1 t214 t215 t216 _ ?side1 ?side2 A6.out).mono ?_);(case side1 => repeat (first|exact (Kd.C_below HR1.out HB.out)|(with_reducible refine Kd.C_alloc ?_ _)|(with_reducible refine Kd.C_drewN ?_ _)|(with_reducible refine Kd.C_drew ?_)));(case side2 => exact HC1.out);rintro e w11 ⟨v217,rfl,ho0,hb⟩;refine ⟨_,rfl,?_⟩;have n0_ := Aside0.mk (Kd.R_lower ho0 (below_size (by repeat (first|(with_reducible first|exact HB.out|apply below_alloc|apply pw_below_drewN|apply below_drew1|refine below_set ?_ GE213.out)|exact HB.out))));have n1_ := Aside0.mk (blk_below (g := gb213) (o := .cells #[.int .u64 a0_0,.int .i64 a0_1,.int .i64 a0_2] 24 (0,0)) (by (with_reducible repeat (first|refine blk_drewN ?_ _|refine blk_drew ?_|refine blk_alloc ?_ _));exact BK213.out) hb);have n2_ := Aside0.mk (below_step (by repeat (first|(with_reducible first|exact HB.out|apply below_alloc|apply pw_below_drewN|apply below_drew1|refine below_set ?_ GE213.out)|exact HB.out)) hb);clear BK213;clear HB;have HO218 := n0_;have BK213 := n1_;have HB := n2_;clear n0_ n1_ n2_;(try clear hb);(try clear hb2);(try clear hk);(try clear hi);(try clear ho0))|((with_reducible refine gate_dst (N := 12) rfl ?_);refine box_event ?hg (N := 12) ?hd (cs := #[.int .u64 0,.int .i64 0,.slice none 0 0]) (t := 59) ?hr ?_;(case hd => rfl);(case hg => rfl);(case hr => first|(go_simp;done)|(go_simp;rfl));intro gb219 hg w12 hbox hb;have n0_ := Aside0.mk (Kd.R_below (by (with_reducible repeat (first|apply Kd.R_alloc|apply Kd.R_drewN|apply Kd.R_drew));exact HO218.out) hb);have n1_ := Aside0.mk (blk_below (g := gb213) (o := .cells #[.int .u64 a0_0,.int .i64 a0_1,.int .i64 a0_2] 24 (0,0)) (by (with_reducible repeat (first|refine blk_drewN ?_ _|refine blk_drew ?_|refine blk_alloc ?_ _));exact BK213.out) hb);have n2_ := Aside0.mk (below_step (by repeat (first|(with_reducible first|exact HB.out|apply below_alloc|apply pw_below_drewN|apply below_drew1|refine below_set ?_ GE213.out)|exact HB.out)) hb);have n3_ := Aside0.mk (hbox);have n4_ := Aside0.mk ((by rw [hg];exact (below_size (by repeat (first|(with_reducible first|exact HB.out|apply below_alloc|apply pw_below_drewN|apply below_drew1|refine below_set ?_ GE213.out)|exact HB.out))) : w.heap.size ≤ gb219));have n5_ := Aside0.mk ((by rw [hg];exact (below_size (by repeat (first|(with_reducible first|exact HB.out|apply below_alloc|apply pw_below_drewN|apply below_drew1|refine below_set ?_ GE213.out)|exact HB.out))) : w.heap.size ≤ gb219));have n6_ := Aside0.mk ((by rw [hg];exact Nat.ne_of_lt (blk_lt (g := gb213) (o := .cells #[.int .u64 a0_0,.int .i64 a0_1,.int .i64 a0_2] 24 (0,0)) (by (with_reducible repeat (first|refine blk_drewN ?_ _|refine blk_drew ?_|refine blk_alloc ?_ _));exact BK213.out)) : gb213 ≠ gb219));have n7_ := Aside0.mk ((by rw [hg];exact Nat.ne_of_gt (blk_lt (g := gb213) (o := .cells #[.int .u64 a0_0,.int .i64 a0_1,.int .i64 a0_2] 24 (0,0)) (by (with_reducible repeat (first|refine blk_drewN ?_ _|refine blk_drew ?_|refine blk_alloc ?_ _));exact BK213.out)) : gb219 ≠ gb213));clear HO218;clear BK213;clear HB;have HO218 := n0_;have BK213 := n1_;have HB := n2_;have BK219 := n3_;have GW219 := n4_;have GE219 := n5_;have NB213_219 := n6_;have NB219_213 := n7_;clear n0_ n1_ n2_ n3_ n4_ n5_ n6_ n7_;clear hb hbox hg;have hnb13 := NB219_213.out;have hnc13 := NB213_219.out;have hcz14_0 : w12.cell? ⟨gb219,0,none⟩ = some (.int .u64 0) := (blk_cell BK219.out 0).trans rfl;have hcz14_1 : w12.cell? ⟨gb219,1,none⟩ = some (.int .i64 0) := (blk_cell BK219.out 1).trans rfl;have hcz14_2 : w12.cell? ⟨gb219,2,none⟩ = some (.slice none 0 0) := (blk_cell BK219.out 2).trans rfl;have hfz14_0 := blk_frozen BK219.out 0;have hfz14_1 := blk_frozen BK219.out 1;have hfz14_2 := blk_frozen BK219.out 2;obtain ⟨Ao15,co15,eo15⟩ := Kd.R_slice HO218.out;subst eo15))
 have n0_ : Aside0 (Kd.R (Kd.int .u64) 22 (((w12.setCell ⟨gb219,0,none⟩ (.int .u64 t214)).setCell ⟨gb219,1,none⟩ (.int .i64 t215)).setCell ⟨gb219,2,none⟩ (.slice Ao15 t216.length co15)) w.heap.size (fun _ => True) (.slice Ao15 t216.length co15) t216) := ⟨by (with_reducible repeat (first|apply Kd.R_alloc|apply Kd.R_drewN|apply Kd.R_drew));exact Kd.R_mono (Kd.R_far (p := ⟨gb219,2,none⟩) (Kd.R_far (p := ⟨gb219,1,none⟩) (Kd.R_far (p := ⟨gb219,0,none⟩) (Kd.R_types HO218.out BK219.out (by decide)) (fun _ hk => hk.2) (.int .u64 t214)) (fun _ hk => hk.2) (.int .i64 t215)) (fun _ hk => hk.2) (.slice Ao15 t216.length co15)) (fun _ hk => trivial)⟩
 have n1_ : Aside0 ((((w12.setCell ⟨gb219,0,none⟩ (.int .u64 t214)).setCell ⟨gb219,1,none⟩ (.int .i64 t215)).setCell ⟨gb219,2,none⟩ (.slice Ao15 t216.length co15)).heap[gb213]? = some (.cells #[.int .u64 a0_0,.int .i64 a0_1,.int .i64 a0_2] 24 (0,0))) := ⟨by (with_reducible repeat (first|refine blk_drewN ?_ _|refine blk_drew ?_|refine blk_alloc ?_ _));refine blk_far ?_ NB213_219.out _;(with_reducible repeat (first|refine blk_drewN ?_ _|refine blk_drew ?_|refine blk_alloc ?_ _));refine blk_far ?_ NB213_219.out _;(with_reducible repeat (first|refine blk_drewN ?_ _|refine blk_drew ?_|refine blk_alloc ?_ _));refine blk_far ?_ NB213_219.out _;(with_reducible repeat (first|refine blk_drewN ?_ _|refine blk_drew ?_|refine blk_alloc ?_ _));exact BK213.out⟩
 have n2_ : Aside0 ((((w12.setCell ⟨gb219,0,none⟩ (.int .u64 t214)).setCell ⟨gb219,1,none⟩ (.int .i64 t215)).setCell ⟨gb219,2,none⟩ (.slice Ao15 t216.length co15)).heap[gb219]? = some (.cells #[.int .u64 t214,.int .i64 t215,.slice Ao15 t216.length co15] 59 (0,0))) := ⟨by (with_reducible repeat (first|refine blk_drewN ?_ _|refine blk_drew ?_|refine blk_alloc ?_ _));refine blk_put (cs := #[.int .u64 t214,.int .i64 t215,.slice none 0 0]) ?_ 2 _ rfl;(with_reducible repeat (first|refine blk_drewN ?_ _|refine blk_drew ?_|refine blk_alloc ?_ _));refine blk_put (cs := #[.int .u64 t214,.int .i64 0,.slice none 0 0]) ?_ 1 _ rfl;(with_reducible repeat (first|refine blk_drewN ?_ _|refine blk_drew ?_|refine blk_alloc ?_ _));refine blk_put (cs := #[.int .u64 0,.int .i64 0,.slice none 0 0]) ?_ 0 _ rfl;(with_reducible repeat (first|refine blk_drewN ?_ _|refine blk_drew ?_|refine blk_alloc ?_ _));exact BK219.out⟩
 have n3_ : Aside0 (Below w.heap.size w (((w12.setCell ⟨gb219,0,none⟩ (.int .u64 t214)).setCell ⟨gb219,1,none⟩ (.int .i64 t215)).setCell ⟨gb219,2,none⟩ (.slice Ao15 t216.length co15))) := ⟨by repeat (first|(with_reducible first|exact HB.out|apply below_alloc|apply pw_below_drewN|apply below_drew1|refine below_set ?_ GE213.out|refine below_set ?_ GE219.out)|exact HB.out)⟩
 (try clear HO218)
 (try clear BK213)
 (try clear BK219)
 (try clear HB)
 generalize (((w12.setCell ⟨gb219,0,none⟩ (.int .u64 t214)).setCell ⟨gb219,1,none⟩ (.int .i64 t215)).setCell ⟨gb219,2,none⟩ (.slice Ao15 t216.length co15)) = w16 at n0_ n1_ n2_ n3_ ⊢
 have HO218 := n0_
 have BK213 := n1_
 have BK219 := n2_
 have HB := n3_
 clear n0_ n1_ n2_ n3_
 have n0_ := Aside0.mk (Kd.R_drew HO218.out)
 have n1_ := Aside0.mk (blk_drew BK213.out)
 have n2_ := Aside0.mk (blk_drew BK219.out)
 have n3_ := Aside0.mk (below_drew1 HB.out)
 clear HO218
 clear BK213
 clear BK219
 clear HB
 have HO218 := n0_
 have BK213 := n1_
 have BK219 := n2_
 have HB := n3_
 clear n0_ n1_ n2_ n3_
 refine start_ (n := 10) (S := fun w' => w'.cell? ⟨gb219,0,none⟩ = some (.int .u64 t214) ∧ w'.cell? ⟨gb219,1,none⟩ = some (.int .i64 t215) ∧ w'.cell? ⟨gb219,2,none⟩ = some (.slice Ao15 t216.length co15)) (ds := []) #[false,false,false,false,false,false,false,false,false,false] (by kernel_rfl) rfl rfl ⟨(blk_cell BK219.out 0).trans rfl,(blk_cell BK219.out 1).trans rfl,(blk_cell BK219.out 2).trans rfl⟩ (fun hHeld => ?_);refine with_tabW tapeshift_Sharing.tab2 tapeshift_Sharing.bits2 (fun HT_ HW_ => ?_)
 generalize w16.drew = w17 at HO218 BK213 BK219 HB hHeld ⊢
 refine pure_ (i := 1) (N := some 17) (v := ?_) (a' := ?_) #[false,true,false,false,false,false,false,false,false,false] rfl rfl (any_of HT_.out (by kernel_rfl)) (fun _ _ _ h => h) (Or.inl ⟨by rfl,?_⟩) ?_ ?_
 rotate_left
 ·intro w'
  go_simp
  with_reducible rfl
 rotate_left
 ·simp only [Act.put,List.setIfInBounds_toArray,List.set_cons_zero,List.set_cons_succ,i64_w,i32_w]
  rfl
 refine pure_ (i := 2) (N := some 18) (v := ?_) (a' := ?_) #[false,true,true,false,false,false,false,false,false,false] rfl rfl (any_of HT_.out (by kernel_rfl)) (fun _ _ _ h => h) (Or.inl ⟨by rfl,?_⟩) ?_ ?_
 rotate_left
 ·intro w'
  go_simp
  with_reducible rfl
 rotate_left
 ·simp only [Act.put,List.setIfInBounds_toArray,List.set_cons_zero,List.set_cons_succ,i64_w,i32_w]
  rfl
 refine pure_ (i := 5) (N := some 21) (v := ?_) (a' := ?_) #[false,true,true,false,false,true,false,false,false,false] rfl rfl (any_of HT_.out (by kernel_rfl)) (fun _ _ _ h => h) (Or.inl ⟨by rfl,?_⟩) ?_ ?_
 rotate_left
 ·intro w'
  go_simp
  with_reducible rfl
 rotate_left
 ·simp only [Act.put,List.setIfInBounds_toArray,List.set_cons_zero,List.set_cons_succ,i64_w,i32_w]
  rfl
 refine pure_ (i := 6) (N := some 22) (v := ?_) (a' := ?_) #[false,true,true,false,false,true,true,false,false,false] rfl rfl (any_of HT_.out (by kernel_rfl)) (fun _ _ _ h => h) (Or.inl ⟨by rfl,?_⟩) ?_ ?_
 rotate_left
 ·intro w'
  go_simp
  with_reducible rfl
 rotate_left
 ·simp only [Act.put,List.setIfInBounds_toArray,List.set_cons_zero,List.set_cons_succ,i64_w,i32_w]
  rfl
 refine take_ (i := 0) (N := some 16) (v := ?_) (a' := ?_) #[true,true,true,false,false,true,true,false,false,false] rfl rfl (take_ofW HT_.out HW_.out (by kernel_rfl)) (fun _ _ _ h => h) (Or.inl ⟨by rfl,?_⟩) hHeld ?_ ?_
 rotate_left
 ·rintro w' ⟨s0,s1,s2⟩
  go_simp
  with_reducible rfl
 rotate_left
 ·simp only [Act.put,List.setIfInBounds_toArray,List.set_cons_zero,List.set_cons_succ,i64_w,i32_w]
  rfl
 refine take_ (i := 4) (N := some 20) (v := ?_) (a' := ?_) #[true,true,true,false,true,true,true,false,false,false] rfl rfl (take_ofW HT_.out HW_.out (by kernel_rfl)) (fun _ _ _ h => h) (Or.inl ⟨by rfl,?_⟩) hHeld ?_ ?_
 rotate_left
 ·rintro w' ⟨s0,s1,s2⟩
  go_simp
  with_reducible rfl
 rotate_left
 ·simp only [Act.put,List.setIfInBounds_toArray,List.set_cons_zero,List.set_cons_succ,i64_w,i32_w]
  rfl
 refine one_ (i := 3) (N := some 19) #[true,true,true,true,true,true,true,false,false,false] rfl rfl (one_of HT_.out (by kernel_rfl)) (by decide) (fun K hK => ?_)
 refine goes_ Try.func44 (by kernel_rfl) rfl #[.agg #[.int .u64 t214,.int .i64 t215,.slice Ao15 t216.length co15],.int .u64 a2,.slice A3 l3.length c3] (by rfl) rfl rfl (by (try simp only [List.map_toArray,List.map_cons,List.map_nil]);first|done|rfl|(simp only [List.length_drop,List.length_take];rfl)) ?_
 with_reducible refine (tapeshift_mover_by.calls k t214 t215 _ _ t216 a2 _ _ l3 t220 _ ?side1 ?side2 ?side3 ?side4 A7.out).mono ?_
 (case side1 => repeat (first|exact (Kd.R_reads' HO218.out).2.2|(with_reducible refine Kd.C_alloc ?_ _)|(with_reducible refine Kd.C_drewN ?_ _)|(with_reducible refine Kd.C_drew ?_)))
 (case side2 => exact (Kd.R_reads' HO218.out).2.1)
 (case side3 => repeat (first|exact (Kd.C_below HR3.out HB.out)|(with_reducible refine Kd.C_alloc ?_ _)|(with_reducible refine Kd.C_drewN ?_ _)|(with_reducible refine Kd.C_drew ?_)))
 (case side4 => exact HC3.out)
 rintro e w18 ⟨v221,rfl,ho0,hb⟩
 refine ⟨_,rfl,?_⟩
 have n0_ := Aside0.mk (Kd.R_elder' (by (with_reducible repeat (first|apply Kd.R_alloc|apply Kd.R_drewN|apply Kd.R_drew));exact HO218.out) (Kd.R_base ho0) hb)
 have n1_ := Aside0.mk (Kd.R_lower (Kd.R_new' ho0 (Kd.R_lt (by (with_reducible repeat (first|apply Kd.R_alloc|apply Kd.R_drewN|apply Kd.R_drew));exact HO218.out))) (below_size (by repeat (first|(with_reducible first|exact HB.out|apply below_alloc|apply pw_below_drewN|apply below_drew1|refine below_set ?_ GE213.out|refine below_set ?_ GE219.out)|exact HB.out))))
 have n2_ := Aside0.mk (blk_below (g := gb213) (o := .cells #[.int .u64 a0_0,.int .i64 a0_1,.int .i64 a0_2] 24 (0,0)) (by (with_reducible repeat (first|refine blk_drewN ?_ _|refine blk_drew ?_|refine blk_alloc ?_ _));exact BK213.out) hb)
 have n3_ := Aside0.mk (blk_below (g := gb219) (o := .cells #[.int .u64 t214,.int .i64 t215,.slice Ao15 t216.length co15] 59 (0,0)) (by (with_reducible repeat (first|refine blk_drewN ?_ _|refine blk_drew ?_|refine blk_alloc ?_ _));exact BK219.out) hb)
 have n4_ := Aside0.mk (below_step (by repeat (first|(with_reducible first|exact HB.out|apply below_alloc|apply pw_below_drewN|apply below_drew1|refine below_set ?_ GE213.out|refine below_set ?_ GE219.out)|exact HB.out)) hb)
 clear HO218
 clear BK213
 clear BK219
 clear HB
 have HO218 := n0_
 have HO222 := n1_
 have BK213 := n2_
 have BK219 := n3_
 have HB := n4_
 clear n0_ n1_ n2_ n3_ n4_
 (try clear hb)
 (try clear hb2)
 (try clear hk)
 (try clear hi)
 (try clear ho0)
 refine hK.out _ _ ⟨(blk_cell BK219.out 0).trans rfl,(blk_cell BK219.out 1).trans rfl,(blk_cell BK219.out 2).trans rfl⟩ (fun hHeld => ?_)
 clear hK K
 refine norm_ (a' := ?_) ?_ ?_
 rotate_left
 ·show Act.put _ (some 19) _ = _
  simp only [Act.put,List.setIfInBounds_toArray,List.set_cons_zero,List.set_cons_succ,i64_w,i32_w]
  rfl
 refine one_ (i := 7) (N := some 23) #[true,true,true,true,true,true,true,true,false,false] rfl rfl (one_of HT_.out (by kernel_rfl)) (by decide) (fun K hK => ?_)
 refine goes_ Try.func45 (by kernel_rfl) rfl #[.agg #[.int .u64 t214,.int .i64 t215,.slice Ao15 t216.length co15],.int .u64 a2,.slice A4 l4.length c4] (by rfl) rfl rfl (by (try simp only [List.map_toArray,List.map_cons,List.map_nil]);first|done|rfl|(simp only [List.length_drop,List.length_take];rfl)) ?_
 with_reducible refine (tapeshift_mover_rest.calls t214 t215 _ _ t216 a2 _ _ l4 t223 _ ?side1 ?side2 ?side3 ?side4 A8.out).mono ?_
 (case side1 => repeat (first|exact (Kd.R_reads' HO218.out).2.2|(with_reducible refine Kd.C_alloc ?_ _)|(with_reducible refine Kd.C_drewN ?_ _)|(with_reducible refine Kd.C_drew ?_)))
 (case side2 => exact (Kd.R_reads' HO218.out).2.1)
 (case side3 => repeat (first|exact (Kd.C_below HR4.out HB.out)|(with_reducible refine Kd.C_alloc ?_ _)|(with_reducible refine Kd.C_drewN ?_ _)|(with_reducible refine Kd.C_drew ?_)))
 (case side4 => exact HC4.out)
 rintro e w19 ⟨v224,rfl,ho0,hb⟩
 refine ⟨_,rfl,?_⟩
 have n0_ := Aside0.mk (Kd.R_elder' (by (with_reducible repeat (first|apply Kd.R_alloc|apply Kd.R_drewN|apply Kd.R_drew));exact HO218.out) (Kd.R_base ho0) hb)
 have n1_ := Aside0.mk (Kd.R_elder' (by (with_reducible repeat (first|apply Kd.R_alloc|apply Kd.R_drewN|apply Kd.R_drew));exact HO222.out) (Kd.R_base ho0) hb)
 have n2_ := Aside0.mk (Kd.R_lower (Kd.R_new' (Kd.R_new' ho0 (Kd.R_lt (by (with_reducible repeat (first|apply Kd.R_alloc|apply Kd.R_drewN|apply Kd.R_drew));exact HO218.out))) (Kd.R_lt (by (with_reducible repeat (first|apply Kd.R_alloc|apply Kd.R_drewN|apply Kd.R_drew));exact HO222.out))) (below_size (by repeat (first|(with_reducible first|exact HB.out|apply below_alloc|apply pw_below_drewN|apply below_drew1|refine below_set ?_ GE213.out|refine below_set ?_ GE219.out)|exact HB.out))))
 have n3_ := Aside0.mk (blk_below (g := gb213) (o := .cells #[.int .u64 a0_0,.int .i64 a0_1,.int .i64 a0_2] 24 (0,0)) (by (with_reducible repeat (first|refine blk_drewN ?_ _|refine blk_drew ?_|refine blk_alloc ?_ _));exact BK213.out) hb)
 have n4_ := Aside0.mk (blk_below (g := gb219) (o := .cells #[.int .u64 t214,.int .i64 t215,.slice Ao15 t216.length co15] 59 (0,0)) (by (with_reducible repeat (first|refine blk_drewN ?_ _|refine blk_drew ?_|refine blk_alloc ?_ _));exact BK219.out) hb)
 have n5_ := Aside0.mk (below_step (by repeat (first|(with_reducible first|exact HB.out|apply below_alloc|apply pw_below_drewN|apply below_drew1|refine below_set ?_ GE213.out|refine below_set ?_ GE219.out)|exact HB.out)) hb)
 clear HO218
 clear HO222
 clear BK213
 clear BK219
 clear HB
 have HO218 := n0_
 have HO222 := n1_
 have HO225 := n2_
 have BK213 := n3_
 have BK219 := n4_
 have HB := n5_
 clear n0_ n1_ n2_ n3_ n4_ n5_
 (try clear hb)
 (try clear hb2)
 (try clear hk)
 (try clear hi)
 (try clear ho0)
 refine hK.out _ _ ⟨(blk_cell BK219.out 0).trans rfl,(blk_cell BK219.out 1).trans rfl,(blk_cell BK219.out 2).trans rfl⟩ (fun hHeld => ?_)
 clear hK K
 refine norm_ (a' := ?_) ?_ ?_
 rotate_left
 ·show Act.put _ (some 23) _ = _
  simp only [Act.put,List.setIfInBounds_toArray,List.set_cons_zero,List.set_cons_succ,i64_w,i32_w]
  rfl
 refine pure_ (i := 8) (N := some 10) (v := ?_) (a' := ?_) #[true,true,true,true,true,true,true,true,true,false] rfl rfl (any_of HT_.out (by kernel_rfl)) (fun _ _ _ h => h) (Or.inl ⟨by rfl,?_⟩) ?_ ?_
 rotate_left
 ·intro w'
  go_simp
  with_reducible rfl
 rotate_left
 ·simp only [Act.put,List.setIfInBounds_toArray,List.set_cons_zero,List.set_cons_succ,i64_w,i32_w]
  rfl
 refine pure_ (i := 9) (N := some 11) (v := ?_) (a' := ?_) #[true,true,true,true,true,true,true,true,true,true] rfl rfl (any_of HT_.out (by kernel_rfl)) (fun _ _ _ h => h) (Or.inl ⟨by rfl,?_⟩) ?_ ?_
 rotate_left
 ·intro w'
  go_simp
  with_reducible rfl
 rotate_left
 ·simp only [Act.put,List.setIfInBounds_toArray,List.set_cons_zero,List.set_cons_succ,i64_w,i32_w]
  rfl
 refine done_ (done_of HT_.out (by kernel_rfl)) ?_
 try go_wp2
 go_ret2
 exact ⟨_,_,by first|rfl|(simp [errW_none,errW_some] <;> rfl)|(simp [*,errW_none,errW_some] <;> rfl),by (with_reducible repeat (first|apply Kd.R_alloc|apply Kd.R_drewN|apply Kd.R_drew));exact Kd.R_mono HO222.out (fun _ hk => hk.2),by (with_reducible repeat (first|apply Kd.R_alloc|apply Kd.R_drewN|apply Kd.R_drew));exact Kd.R_mono HO225.out (fun _ hk => hk.2),by repeat (first|(with_reducible first|exact HB.out|apply below_alloc|apply pw_below_drewN|apply below_drew1|refine below_set ?_ GE213.out|refine below_set ?_ GE219.out)|exact HB.out)⟩
/-! ### privityref14_Words: function 18 -/
def privityref14_Words.l0 : Nat → List Int → List Int → Int → Option (Bool)
 | 0,_,_,_ => none
 | k + 1,x0,x1,x5 => if x5 < (x0.length : Int) then (if 0 ≤ x5 then (if x5 < (x1.length : Int) then (if (rd x0 x5) = (rd x1 x5) then (privityref14_Words.l0 k x0 x1 (wrap64 (x5 + 1))) else (some false)) else (none)) else (none)) else (some true)
def privityref14_Words.f (k : Nat) (l0 : List Int) (l1 : List Int) : Option (Bool) := if (l0.length : Int) = (l1.length : Int) then (privityref14_Words.l0 k l0 l1 0) else (some false)
theorem privityref14_Words.mono_l : ∀ k, (∀ y0 y1 y2, LeO (privityref14_Words.l0 k y0 y1 y2) (privityref14_Words.l0 (k + 1) y0 y1 y2))
 | 0 => fun _ _ _ r h => by simp [privityref14_Words.l0] at h
 | k + 1 => by
  have ih0 := privityref14_Words.mono_l k
  ·intro y0 y1 y2
   unfold privityref14_Words.l0
   repeat' first
   | (with_reducible exact ih0 _ _ _)
   | (with_reducible exact LeO.refl _)
   | (with_reducible exact LeO.none _)
   | (with_reducible refine LeO.ite ?_ ?_)
   | (with_reducible refine LeO.bind ?_ (fun _ => ?_))
   | exact ih0 _ _ _
   | exact LeO.none _
   | refine LeO.ite ?_ ?_
   | refine LeO.bind ?_ (fun _ => ?_)
theorem privityref14_Words.mono : ∀ a0 a1 k, LeO (privityref14_Words.f k a0 a1) (privityref14_Words.f (k + 1) a0 a1) := by
 intro a0 a1 k
 have ih0 := privityref14_Words.mono_l k
 unfold privityref14_Words.f
 repeat' first
   | (with_reducible exact ih0 _ _ _)
   | (with_reducible exact LeO.refl _)
   | (with_reducible exact LeO.none _)
   | (with_reducible refine LeO.ite ?_ ?_)
   | (with_reducible refine LeO.bind ?_ (fun _ => ?_))
   | exact ih0 _ _ _
   | exact LeO.none _
   | refine LeO.ite ?_ ?_
   | refine LeO.bind ?_ (fun _ => ?_)
set_option maxHeartbeats 8000000 in
set_option maxRecDepth 100000 in
theorem privityref14_Words.calls (k : Nat) (A0 : Option Addr) (c0 : Nat) (l0 : List Int) (A1 : Option Addr) (c1 : Nat) (l1 : List Int) (r : Bool) (w : World) (hr0 : Kd.C (Kd.int .u64) w A0 l0.length l0) (hc0 : l0.length ≤ c0) (hr1 : Kd.C (Kd.int .u64) w A1 l1.length l1) (hc1 : l1.length ≤ c1) (h : privityref14_Words.f k l0 l1 = some r) :
  Calls Try.prog 18 #[.slice A0 l0.length c0,.slice A1 l1.length c1] w fun e w' => e = .returned (.bool r) ∧ Drawn0 w w' := by
 have HR0 := Aside0.mk hr0
 have HC0 := Aside0.mk hc0
 clear hr0 hc0
 have HR1 := Aside0.mk hr1
 have HC1 := Aside0.mk hc1
 clear hr1 hc1
 have H : (if (l0.length : Int) = (l1.length : Int) then (privityref14_Words.l0 k l0 l1 0) else (some false)) = some r := h
 clear h
 by_cases c3 : (l0.length : Int) = (l1.length : Int)
 ·rw [if_pos c3] at H
  have c3b0 : ((l0.length : Int) == (l1.length : Int)) = true := beq_iff_eq.mpr c3
  have c3b1 : ((l0.length : Int) != (l1.length : Int)) = false := bne_eq_false_iff_eq.mpr c3
  have c3b2 : (l0.length == l1.length) = true := by first|simpa using c3|(simp at c3 ⊢;omega)
  clear c3
  have H' := Aside0.mk H
  clear H
  go_enter Try.func18,Try.ntmps18
  go_wp2
  repeat (go_quiet (fail);try go_wp2)
  go_loopg [5] k (fun kq v5 w' => ∃ (x5_1 : Int),v5 = .int .i64 x5_1 ∧ Aside0 (privityref14_Words.l0 kq l0 l1 x5_1 = some r) ∧ Aside0 (kq ≤ k) ∧ Drawn0 w w')
  case atStart => exact ⟨(0),(by first|rfl|(simp;done)|(simp [*];done)),H',⟨Nat.le_refl _⟩,by repeat (first|exact Drawn0.refl _|apply Drawn0.step)⟩
  case round =>
   clear H'
   try clear c1
   try clear p2
   try clear c3
   try clear c3b0
   try clear c3b1
   try clear c3b2
   obtain ⟨x5_1,rfl,HA,HK1,⟨m1,rfl⟩⟩ := hrel
   cases gk with
   | zero => exact absurd HA.out (by simp [privityref14_Words.l0])
   | succ k1 =>
    have H := HA.out
    clear HA
    simp only [privityref14_Words.l0] at H
    by_cases c4 : x5_1 < (l0.length : Int)
    ·rw [if_pos c4] at H
     have c4b0 : decide (x5_1 < (l0.length : Int)) = true := decide_eq_true c4
     clear c4
     by_cases c5 : 0 ≤ x5_1
     ·rw [if_pos c5] at H
      have c5b0 : decide (0 ≤ x5_1) = true := decide_eq_true c5
      clear c5
      by_cases c6 : x5_1 < (l1.length : Int)
      ·rw [if_pos c6] at H
       have c6b0 : decide (x5_1 < (l1.length : Int)) = true := decide_eq_true c6
       clear c6
       by_cases c7 : (rd l0 x5_1) = (rd l1 x5_1)
       ·rw [if_pos c7] at H
        have c7b0 : ((rd l0 x5_1) == (rd l1 x5_1)) = true := beq_iff_eq.mpr c7
        have c7b1 : ((rd l0 x5_1) != (rd l1 x5_1)) = false := bne_eq_false_iff_eq.mpr c7
        clear c7
        have H' := Aside0.mk H
        clear H
        have p226 : 0 ≤ (x5_1 : Int) := of_decide_eq_true (by first|(with_reducible assumption)|assumption)
        have q226 : x5_1 < (l0.length : Int) := of_decide_eq_true (by first|(with_reducible assumption)|assumption)
        obtain ⟨ad226,e226,hx226_0⟩ := Kd.at_int HR0.out x5_1 p226 q226
        cases e226
        replace p226 := eq_true p226
        replace q226 := eq_true q226
        have p227 : 0 ≤ (x5_1 : Int) := of_decide_eq_true (by first|(with_reducible assumption)|assumption)
        have q227 : x5_1 < (l1.length : Int) := of_decide_eq_true (by first|(with_reducible assumption)|assumption)
        obtain ⟨ad227,e227,hx227_0⟩ := Kd.at_int HR1.out x5_1 p227 q227
        cases e227
        replace p227 := eq_true p227
        replace q227 := eq_true q227
        go_wp2
        repeat (go_quiet (fail);try go_wp2)
        go_roundg k1
        case measure => have := HK1.out;omega
        case rel => exact ⟨(wrap64 (x5_1 + 1)),(by first|rfl|(simp;done)|(simp [*];done)),H',⟨by have := HK1.out;omega⟩,by repeat (first|exact Drawn0.refl _|apply Drawn0.step)⟩
       ·rw [if_neg c7] at H
        have c7b0 : ((rd l0 x5_1) == (rd l1 x5_1)) = false := beq_eq_false_iff_ne.mpr c7
        have c7b1 : ((rd l0 x5_1) != (rd l1 x5_1)) = true := bne_iff_ne.mpr c7
        obtain rfl := Option.some.inj H
        have p226 : 0 ≤ (x5_1 : Int) := of_decide_eq_true (by first|(with_reducible assumption)|assumption)
        have q226 : x5_1 < (l0.length : Int) := of_decide_eq_true (by first|(with_reducible assumption)|assumption)
        obtain ⟨ad226,e226,hx226_0⟩ := Kd.at_int HR0.out x5_1 p226 q226
        cases e226
        replace p226 := eq_true p226
        replace q226 := eq_true q226
        have p227 : 0 ≤ (x5_1 : Int) := of_decide_eq_true (by first|(with_reducible assumption)|assumption)
        have q227 : x5_1 < (l1.length : Int) := of_decide_eq_true (by first|(with_reducible assumption)|assumption)
        obtain ⟨ad227,e227,hx227_0⟩ := Kd.at_int HR1.out x5_1 p227 q227
        cases e227
        replace p227 := eq_true p227
        replace q227 := eq_true q227
        go_wp2
        repeat (go_quiet (fail);try go_wp2)
        go_ret
        exact ⟨by first|rfl|(simp;done)|(simp [*];done),by repeat (first|exact Drawn0.refl _|apply Drawn0.step)⟩
      ·rw [if_neg c6] at H
       exact absurd H (by simp)
     ·rw [if_neg c5] at H
      exact absurd H (by simp)
    ·rw [if_neg c4] at H
     have c4b0 : decide (x5_1 < (l0.length : Int)) = false := decide_eq_false c4
     clear c4
     obtain rfl := Option.some.inj H
     go_wp2
     repeat (go_quiet (fail);try go_wp2)
     go_ret
     exact ⟨by first|rfl|(simp;done)|(simp [*];done),by repeat (first|exact Drawn0.refl _|apply Drawn0.step)⟩
 ·rw [if_neg c3] at H
  have c3b0 : ((l0.length : Int) == (l1.length : Int)) = false := beq_eq_false_iff_ne.mpr c3
  have c3b1 : ((l0.length : Int) != (l1.length : Int)) = true := bne_iff_ne.mpr c3
  have c3b2 : (l0.length == l1.length) = false := by first|simpa using c3|(simp at c3 ⊢;omega)
  obtain rfl := Option.some.inj H
  go_enter Try.func18,Try.ntmps18
  go_wp2
  repeat (go_quiet (fail);try go_wp2)
  go_ret
  exact ⟨by first|rfl|(simp;done)|(simp [*];done),by repeat (first|exact Drawn0.refl _|apply Drawn0.step)⟩
/-! ### privitylaw43_four: function 41 -/
def privitylaw43_four.f  : Option (Int × Int × Int) := some (31, 4, 1)
set_option maxHeartbeats 8000000 in
set_option maxRecDepth 100000 in
theorem privitylaw43_four.calls  (r1 : Int) (r2 : Int) (r3 : Int) (w : World) (h : privitylaw43_four.f  = some (r1, r2, r3)) :
  Calls Try.prog 41 #[] w fun e w' => e = .returned (.agg #[.int .u64 r1,.int .i64 r2,.int .i64 r3]) ∧ Below w.heap.size w w' := by
 have hu24 := Try.underlying24
 have HB := Aside0.mk (Below.refl w.heap.size w)
 have H : (some (31,4,1)) = some (r1,r2,r3) := h
 clear h
 simp only [Option.some.injEq,Prod.mk.injEq] at H
 obtain ⟨rfl,rfl,rfl⟩ := H
 go_enter Try.func41,Try.ntmps41
 go_wp2_with (first|((with_reducible refine gate_dst (N := 0) rfl ?_);refine box_event ?hg (N := 0) ?hd (cs := #[.int .u64 0,.int .i64 0,.int .i64 0]) (t := 24) ?hr ?_;(case hd => rfl);(case hg => rfl);(case hr => first|(go_simp;done)|(go_simp;rfl));intro gb228 hg w1 hbox hb;have n0_ := Aside0.mk (below_step (by repeat (first|(with_reducible first|exact HB.out|apply below_alloc|apply pw_below_drewN|apply below_drew1)|exact HB.out)) hb);have n1_ := Aside0.mk (hbox);have n2_ := Aside0.mk ((by rw [hg];exact (below_size (by repeat (first|(with_reducible first|exact HB.out|apply below_alloc|apply pw_below_drewN|apply below_drew1)|exact HB.out))) : w.heap.size ≤ gb228));have n3_ := Aside0.mk ((by rw [hg];exact (below_size (by repeat (first|(with_reducible first|exact HB.out|apply below_alloc|apply pw_below_drewN|apply below_drew1)|exact HB.out))) : w.heap.size ≤ gb228));clear HB;have HB := n0_;have BK228 := n1_;have GW228 := n2_;have GE228 := n3_;clear n0_ n1_ n2_ n3_;clear hb hbox hg;have hcz2_0 : w1.cell? ⟨gb228,0,none⟩ = some (.int .u64 0) := (blk_cell BK228.out 0).trans rfl;have hcz2_1 : w1.cell? ⟨gb228,1,none⟩ = some (.int .i64 0) := (blk_cell BK228.out 1).trans rfl;have hcz2_2 : w1.cell? ⟨gb228,2,none⟩ = some (.int .i64 0) := (blk_cell BK228.out 2).trans rfl;have hfz2_0 := blk_frozen BK228.out 0;have hfz2_1 := blk_frozen BK228.out 1;have hfz2_2 := blk_frozen BK228.out 2))
 refine bodyPost_ret (results_cell_row rfl _ _ gb228 24 #[.int .u64 31,.int .i64 4,.int .i64 1] (0,0) _ rfl (by (with_reducible repeat (first|refine blk_drewN ?_ _|refine blk_drew ?_|refine blk_alloc ?_ _));refine blk_put (cs := #[.int .u64 31,.int .i64 4,.int .i64 0]) ?_ 2 _ rfl;(with_reducible repeat (first|refine blk_drewN ?_ _|refine blk_drew ?_|refine blk_alloc ?_ _));refine blk_put (cs := #[.int .u64 31,.int .i64 0,.int .i64 0]) ?_ 1 _ rfl;(with_reducible repeat (first|refine blk_drewN ?_ _|refine blk_drew ?_|refine blk_alloc ?_ _));refine blk_put (cs := #[.int .u64 0,.int .i64 0,.int .i64 0]) ?_ 0 _ rfl;(with_reducible repeat (first|refine blk_drewN ?_ _|refine blk_drew ?_|refine blk_alloc ?_ _));exact BK228.out) Try.underlying24 rfl (by kernel_rfl)) rfl ?_
 exact ⟨by first|rfl|(simp [errW_none,errW_some] <;> rfl)|(simp [*,errW_none,errW_some] <;> rfl),by repeat (first|(with_reducible first|exact HB.out|apply below_alloc|apply pw_below_drewN|apply below_drew1|refine below_set ?_ GE228.out)|exact HB.out)⟩
end Go.Proofs.Ytejeelpnmdfibaa.Pr
end
