/- Part 5 of the proof's texts, joined in build order. -/
import Derived.Test.YtejeelpnmdfibaaZTId4
import Derived.Test.YtejeelpnmdfibaaZTId0
import Derived.Test.YtejeelpnmdfibaaZTId2
section
/-
  rest of package tapeshift, proved by hand.
-/
namespace Go.Proofs.Ytejeelpnmdfibaa.Hw
open Go.RowKit Go.Proofs.Ytejeelpnmdfibaa.Pr Go.Proofs.YtejeelpnmdfibaaW.PrintWords Go.Proofs.YtejeelpnmdfibaaW.PrintLast Go.Proofs.YtejeelpnmdfibaaW.PrintMore Go.Proofs.Ytejeelpnmdfibaa.E
set_option linter.unusedVariables false
set_option linter.unusedSimpArgs false

/-- What the inner loop appends yet: n words from column j on, the next word of l being the q-th. -/
def movJ (p k : Int) (z l : List Int) : Nat → Nat → Nat → List Int
  | 0, _, _ => []
  | n + 1, j, q => ((rd l (q : Int) + k * rd z (j : Int) % p) % p) :: movJ p k z l n (j + 1) (q + 1)
def movI (p d : Int) (t : Nat) (z l : List Int) : Nat → Nat → Nat → List Int
  | 0, _, _ => []
  | n + 1, i, q => movJ p (d * rd z (i : Int) % p) z l (t + 1 - i) i q ++ movI p d t z l n (i + 1) (q + (t + 1 - i))
theorem movJ_length (p k : Int) (z l : List Int) : ∀ n j q, (movJ p k z l n j q).length = n
  | 0, _, _ => rfl
  | n + 1, j, q => by rw [movJ, List.length_cons, movJ_length p k z l n]
/-- make with length 0. -/
theorem mk_run0 {t e : TypeId} {z : Value} {b : Nat} (ht : Try.prog.underlying t = some (.slice e)) (hinfo : (Try.prog.info? e).map (fun i => (i.zero, i.size, i.bytes)) = some (some z, 1, b)) (hz : z.cells = #[z]) (n : Nat) (hn : n ≤ 1000000) (hb : b ≤ 100) (w : World) :
    (Instr.makeSlice t (.int .i64 0) (.int .i64 (n : Int))).run Try.prog w = .ok (.slice (some ⟨w.heap.size, 0, none⟩) 0 n) (w.alloc (.cells (List.replicate n z).toArray e)) := by
  obtain ⟨i0, hi, hzz⟩ := Option.map_eq_some_iff.1 hinfo
  simp only [Prod.mk.injEq] at hzz
  obtain ⟨hz0, hz1, hz2⟩ := hzz
  have hr := run_make (P := Try.prog) w t e i0 z ht hi hz0 .i64 .i64 (0 : Int) (n : Int) (by omega) (by omega)
    (by
      have h3 : ((i0.bytes * n : Nat) : Int) ≤ 281474976710656 := by
        have : i0.bytes * n ≤ 100 * 1000000 := Nat.mul_le_mul (by omega) hn
        omega
      rwa [Int.natCast_mul] at h3) (by omega)
  simp only [Int.toNat_natCast] at hr
  rw [hz1, Nat.mul_one, hz] at hr
  rw [show Int.toNat 0 = 0 from rfl] at hr
  rw [hr]
  have e : madeCells #[z] n = (List.replicate n z).toArray := by
    apply Array.ext'
    rw [toList_madeCells_one]
  rw [e]
/-- An empty slice with room. -/
theorem room_own (w : World) (n : Nat) (hn : n ≤ 1000000) (base : Nat) (hb : base ≤ w.heap.size) : Kd.R (Kd.int .u64) 22 (w.alloc (.cells (List.replicate n (Value.int .u64 0)).toArray 22)) base (fun _ => True) (.slice (some ⟨w.heap.size, 0, none⟩) 0 n) ([] : List Int) := by
  refine R_made ?_ (fun _ _ => trivial)
  refine ⟨rfl, .inr ⟨w.heap.size, n, (List.replicate n (Value.int .u64 0)).toArray, rfl, hb, blk_new w _, Nat.zero_le _, by simp only [maxLen]; omega, by rw [List.size_toArray, List.length_replicate]; omega, ?_⟩⟩
  simp [nums]
set_option maxHeartbeats 4000000 in
set_option maxRecDepth 100000 in
theorem rest_walk {p : Int} (hp : Supp p) (t : Nat) (ht : t ≤ 20) {d : Int} (hd : Res p d) (A0 : Option Addr) (c0 : Nat) (z : List Int) (A2 : Option Addr) (c2 : Nat) (l : List Int) (w : World)
    (hr0 : Kd.C (Kd.int .u64) w A0 z.length z) (hc0 : z.length ≤ c0) (hr2 : Kd.C (Kd.int .u64) w A2 l.length l) (hc2 : l.length ≤ c2)
    (hz : ∀ i : Nat, i ≤ t → Res p (rd z (i : Int))) (hzl : t < z.length) (hlr : ∀ i : Nat, i < l.length → Res p (rd l (i : Int))) (hll : (movI p d t z l t 1 0).length ≤ l.length) (hl2 : l.length ≤ 1000) :
    Calls Try.prog 45 #[.agg #[.int .u64 p, .int .i64 (t : Int), .slice A0 z.length c0], .int .u64 d, .slice A2 l.length c2] w fun e w' => ∃ v0_ : Value, e = .returned (v0_) ∧ Kd.R (Kd.int .u64) 22 w' w.heap.size (fun _ => True) v0_ (movI p d t z l t 1 0) ∧ Below w.heap.size w w' := by
  have HR0 := Aside0.mk hr0
  have HR2 := Aside0.mk hr2
  have HZ := Aside0.mk hz
  have HLR := Aside0.mk hlr
  have HLL := Aside0.mk hll
  have hu := Try.underlying59
  obtain ⟨ad, e0, _⟩ := Kd.at_int hr0 (0 : Int) (by omega) (by omega)
  subst e0
  clear hr0 hr2 hz hlr hll
  go_enter Try.func45, Try.ntmps45
  go_wp2_with (first
    | ((with_reducible refine gate_dst (N := 3) rfl ?_); refine box_event ?hg (N := 3) ?hd (cs := #[.int .u64 p, .int .i64 (t : Int), .slice (some ad) z.length c0]) (t := 59) ?hr ?_; (case hd => rfl); (case hg => rfl); (case hr => first | (go_simp; done) | (go_simp; rfl)); intro gb hgb w4 hbox hb4; have GB := Aside0.mk hgb; have BK4 := Aside0.mk hbox; have HB4 := Aside0.mk hb4; have hmk := mk_run0 (t := 26) (e := 22) (z := .int .u64 0) Try.underlying26 info22 rfl l.length (by omega) (by decide) w4; clear hbox hb4 hgb))
  have HB5 := Aside0.mk (below_alloc HB4.out (.cells (List.replicate l.length (Value.int .u64 0)).toArray 22))
  have BK5 := Aside0.mk (blk_alloc BK4.out (.cells (List.replicate l.length (Value.int .u64 0)).toArray 22))
  have HO5 := Aside0.mk (room_own w4 l.length (by omega) w.heap.size (below_size HB4.out))
  have HGB := Aside0.mk (show w.heap.size ≤ gb by rw [GB.out]; exact Nat.le_refl _)
  clear hmk BK4 HB4 GB
  go_loopg [7, 8, 9, 10] t (fun kq v7 v8 v9 v10 w' => ∃ (i : Nat) (dn : List Int), v8 = .int .i64 (i : Int) ∧ Aside0 (kq + i = t + 1 ∧ 1 ≤ i) ∧ Aside0 (dn ++ movI p d t z l (t + 1 - i) i dn.length = movI p d t z l t 1 0) ∧ Aside0 (Kd.R (Kd.int .u64) 22 w' w.heap.size (fun _ => True) v7 dn) ∧ Aside0 (w'.heap[gb]? = some (.cells #[.int .u64 p, .int .i64 (t : Int), .slice (some ad) z.length c0] 59 (0, 0))) ∧ Aside0 (Below w.heap.size w w'))
  case atStart => exact ⟨1, [], rfl, ⟨rfl, Nat.le_refl _⟩, ⟨rfl⟩, HO5, BK5, HB5⟩
  case round =>
    clear HO5 BK5 HB5
    obtain ⟨i, dn, rfl, HK, HD, HO, BK, HB⟩ := hrel
    have c0' := blk_cell BK.out 0
    have c1' := blk_cell BK.out 1
    have c2' := blk_cell BK.out 2
    simp only [List.getElem?_toArray, List.getElem?_cons_zero, List.getElem?_cons_succ] at c0' c1' c2'
    obtain ⟨hk0, hk1⟩ := HK.out
    by_cases hlt : i ≤ t
    · have q1 : decide ((i : Int) ≤ (t : Int)) = true := decide_eq_true (by omega)
      have q2 : decide (i ≤ t) = true := decide_eq_true hlt
      have p1 : ((0 : Int) ≤ (i : Int)) = True := eq_true (by omega)
      have p2 : ((i : Int) < (z.length : Int)) = True := eq_true (by omega)
      obtain ⟨ad', e, hy⟩ := Kd.at_int (Kd.C_below HR0.out HB.out) (i : Int) (by omega) (by omega)
      obtain rfl := Option.some.inj e
      rw [Int.toNat_natCast] at hy
      obtain ⟨kk, hkk⟩ := (mul_ev hp hd (HZ.out i hlt)).rounds
      have HKK := Aside0.mk hkk
      obtain ⟨k, hke⟩ : ∃ y, y = d * rd z (i : Int) % p := ⟨_, rfl⟩
      rw [← hke] at HKK
      have HKR := Aside0.mk (show Res p k by rw [hke]; exact Res.mod hp _)
      have hrun : t + 1 - i = (t + 1 - (i + 1)) + 1 := by omega
      have HE := Aside0.mk (show dn ++ (movJ p k z l (t + 1 - i) i dn.length ++ movI p d t z l (t + 1 - (i + 1)) (i + 1) (dn.length + (t + 1 - i))) = movI p d t z l t 1 0 by rw [← HD.out]; conv => rhs; rw [hrun, movI, ← hke])
      clear hkk hke hrun
      go_wp2
      refine wp_region_quiet_tail_drawn 9 (by kernel_rfl) (by kernel_rfl) ?_
      simp only [List.take_succ_cons, List.take_zero, List.drop_succ_cons, List.drop_zero]
      repeat (quiet_step ((refine Calls.quiet_of ((field_Mul.calls kk _ _ _ k _ HKK.out).mono fun e w' h => ⟨h.1, h.2.out⟩))))
      refine wpQuiet_nil ?_
      rintro _ ⟨nq, rfl⟩
      go_wp2
      have HD2 := Aside0.mk (show dn ++ (movJ p k z l (t + 1 - i) i dn.length ++ movI p d t z l (t + 1 - (i + 1)) (i + 1) (dn.length + (t + 1 - i))) = movI p d t z l t 1 0 from HE.out)
      have HO6 := Aside0.mk (Kd.R_drewN HO.out nq)
      have BK6 := Aside0.mk (blk_drewN BK.out nq)
      have HB6 := Aside0.mk (pw_below_drewN HB.out nq)
      have HI := Aside0.mk (And.intro hk1 hlt)
      clear HD HE HO BK HB hk0 hk1 hlt hy c0' c1' c2' p1 p2 q1 q2
      go_loopg [7, 10] (t + 1 - i) (fun kq v7 v10 w' => ∃ (j : Nat) (dm : List Int), v10 = .int .i64 (j : Int) ∧ Aside0 (kq + j = t + 1 ∧ i ≤ j) ∧ Aside0 (dm ++ (movJ p k z l (t + 1 - j) j dm.length ++ movI p d t z l (t + 1 - (i + 1)) (i + 1) (dm.length + (t + 1 - j))) = movI p d t z l t 1 0) ∧ Aside0 (Kd.R (Kd.int .u64) 22 w' w.heap.size (fun _ => True) v7 dm) ∧ Aside0 (w'.heap[gb]? = some (.cells #[.int .u64 p, .int .i64 (t : Int), .slice (some ad) z.length c0] 59 (0, 0))) ∧ Aside0 (Below w.heap.size w w'))
      case atStart => exact ⟨i, dn, rfl, ⟨by have := HI.out; omega, Nat.le_refl _⟩, HD2, HO6, BK6, HB6⟩
      case round =>
        clear HD2 HO6 BK6 HB6
        obtain ⟨j, dm, rfl, HK2, HD, HO, BK, HB⟩ := hrel
        have c0' := blk_cell BK.out 0
        have c1' := blk_cell BK.out 1
        have c2' := blk_cell BK.out 2
        simp only [List.getElem?_toArray, List.getElem?_cons_zero, List.getElem?_cons_succ] at c0' c1' c2'
        obtain ⟨hk0, hk1⟩ := HK2.out
        obtain ⟨hi1, hi2⟩ := HI.out
        by_cases hlt : j ≤ t
        · have q1 : decide ((j : Int) ≤ (t : Int)) = true := decide_eq_true (by omega)
          have q2 : decide (j ≤ t) = true := decide_eq_true hlt
          have hrun : t + 1 - j = (t + 1 - (j + 1)) + 1 := by omega
          have hD := HD.out
          have hdl : dm.length < l.length := by
            have h1 := congrArg List.length hD
            rw [List.length_append, List.length_append, movJ_length] at h1
            have := HLL.out
            omega
          have p1 : ((0 : Int) ≤ (j : Int)) = True := eq_true (by omega)
          have p2 : ((j : Int) < (z.length : Int)) = True := eq_true (by omega)
          have p3 : ((0 : Int) ≤ (dm.length : Int)) = True := eq_true (by omega)
          have p4 : ((dm.length : Int) < (l.length : Int)) = True := eq_true (by omega)
          obtain ⟨ad', e, hy⟩ := Kd.at_int (Kd.C_below HR0.out HB.out) (j : Int) (by omega) (by omega)
          obtain rfl := Option.some.inj e
          obtain ⟨ad2, e2, hy2⟩ := Kd.at_int (Kd.C_below HR2.out HB.out) (dm.length : Int) (by omega) (by omega)
          cases e2
          rw [Int.toNat_natCast] at hy hy2
          obtain ⟨k1, hk1'⟩ := (mul_ev hp HKR.out (HZ.out j hlt)).rounds
          obtain ⟨k2, hk2'⟩ := (add_ev hp (HLR.out dm.length hdl) (Res.mod hp (k * rd z (j : Int)))).rounds
          have HE := Aside0.mk (show (dm ++ [(rd l (dm.length : Int) + k * rd z (j : Int) % p) % p]) ++ (movJ p k z l (t + 1 - (j + 1)) (j + 1) (dm.length + 1) ++ movI p d t z l (t + 1 - (i + 1)) (i + 1) (dm.length + 1 + (t + 1 - (j + 1)))) = movI p d t z l t 1 0 by
            rw [← hD]
            conv => rhs; rw [hrun, movJ]
            rw [show dm.length + 1 + (t + 1 - (j + 1)) = dm.length + (t + 1 - (j + 1) + 1) from by omega]
            simp)
          obtain ⟨zk, hzk⟩ : ∃ y, y = k * rd z (j : Int) % p := ⟨_, rfl⟩
          rw [← hzk] at hk1' hk2' HE
          obtain ⟨x, hx⟩ : ∃ y, y = (rd l (dm.length : Int) + zk) % p := ⟨_, rfl⟩
          rw [← hx] at hk2' HE
          have HK1 := Aside0.mk hk1'
          have HK2' := Aside0.mk hk2'
          obtain ⟨m1, hm1⟩ : ∃ y : List Int, y = dm ++ [x] := ⟨_, rfl⟩
          rw [← hm1] at HE
          have NM := Aside0.mk hm1
          have HDL := Aside0.mk hdl
          obtain ⟨A7, c7, rfl⟩ := Kd.R_slice HO.out
          clear hrun hD hzk hx hk1' hk2' hm1 hdl HD
          go_wp2
          refine start_ (n := 21) (S := (fun w' => w'.cell? ⟨gb, 0, none⟩ = some (.int .u64 p) ∧ w'.cell? ⟨gb, 2, none⟩ = some (.slice (some ad) z.length c0) ∧ w'.cell? (ad2.add dm.length) = some (.int .u64 (rd l (dm.length : Int))) ∧ w'.cell? (ad.add j) = some (.int .u64 (rd z (j : Int))))) (ds := []) #[false, false, false, false, false, false, false, false, false, false, false, false, false, false, false, false, false, false, false, false, false] (by kernel_rfl) rfl rfl ⟨c0', c2', hy2, hy⟩ (fun hHeld => ?_)
          refine pure_ (i := 0) (N := some 36) (v := ?_) (a' := ?_) #[true, false, false, false, false, false, false, false, false, false, false, false, false, false, false, false, false, false, false, false, false] rfl rfl (by kernel_rfl) (fun _ _ _ h => h) (Or.inl ⟨by rfl, ?_⟩) ?_ ?_
          rotate_left
          · intro w'
            go_simp
            with_reducible rfl
          rotate_left
          · simp only [Act.put, List.setIfInBounds_toArray, List.set_cons_zero, List.set_cons_succ, i64_w, i32_w]
            rfl
          refine pure_ (i := 1) (N := some 37) (v := ?_) (a' := ?_) #[true, true, false, false, false, false, false, false, false, false, false, false, false, false, false, false, false, false, false, false, false] rfl rfl (by kernel_rfl) (fun _ _ _ h => h) (Or.inl ⟨by rfl, ?_⟩) ?_ ?_
          rotate_left
          · intro w'
            go_simp
            with_reducible rfl
          rotate_left
          · simp only [Act.put, List.setIfInBounds_toArray, List.set_cons_zero, List.set_cons_succ, i64_w, i32_w]
            rfl
          refine take_ (i := 2) (N := some 38) (v := ?_) (a' := ?_) #[true, true, true, false, false, false, false, false, false, false, false, false, false, false, false, false, false, false, false, false, false] rfl rfl (by kernel_rfl) (fun _ _ _ h => h) (Or.inl ⟨by rfl, ?_⟩) hHeld ?_ ?_
          rotate_left
          · rintro w' ⟨s0, s1, s2, s3⟩
            go_simp
            with_reducible rfl
          rotate_left
          · simp only [Act.put, List.setIfInBounds_toArray, List.set_cons_zero, List.set_cons_succ, i64_w, i32_w]
            rfl
          refine pure_ (i := 3) (N := some 39) (v := ?_) (a' := ?_) #[true, true, true, true, false, false, false, false, false, false, false, false, false, false, false, false, false, false, false, false, false] rfl rfl (by kernel_rfl) (fun _ _ _ h => h) (Or.inl ⟨by rfl, ?_⟩) ?_ ?_
          rotate_left
          · intro w'
            go_simp
            with_reducible rfl
          rotate_left
          · simp only [Act.put, List.setIfInBounds_toArray, List.set_cons_zero, List.set_cons_succ, i64_w, i32_w]
            rfl
          refine pure_ (i := 4) (N := some 40) (v := ?_) (a' := ?_) #[true, true, true, true, true, false, false, false, false, false, false, false, false, false, false, false, false, false, false, false, false] rfl rfl (by kernel_rfl) (fun _ _ _ h => h) (Or.inl ⟨by rfl, ?_⟩) ?_ ?_
          rotate_left
          · intro w'
            go_simp
            with_reducible rfl
          rotate_left
          · simp only [Act.put, List.setIfInBounds_toArray, List.set_cons_zero, List.set_cons_succ, i64_w, i32_w]
            rfl
          refine pure_ (i := 5) (N := some 41) (v := ?_) (a' := ?_) #[true, true, true, true, true, true, false, false, false, false, false, false, false, false, false, false, false, false, false, false, false] rfl rfl (by kernel_rfl) (fun _ _ _ h => h) (Or.inl ⟨by rfl, ?_⟩) ?_ ?_
          rotate_left
          · intro w'
            go_simp
            with_reducible rfl
          rotate_left
          · simp only [Act.put, List.setIfInBounds_toArray, List.set_cons_zero, List.set_cons_succ, i64_w, i32_w]
            rfl
          refine pure_ (i := 6) (N := some 42) (v := ?_) (a' := ?_) #[true, true, true, true, true, true, true, false, false, false, false, false, false, false, false, false, false, false, false, false, false] rfl rfl (by kernel_rfl) (fun _ _ _ h => h) (Or.inl ⟨by rfl, ?_⟩) ?_ ?_
          rotate_left
          · intro w'
            go_simp
            with_reducible rfl
          rotate_left
          · simp only [Act.put, List.setIfInBounds_toArray, List.set_cons_zero, List.set_cons_succ, i64_w, i32_w]
            rfl
          refine take_ (i := 7) (N := some 43) (v := ?_) (a' := ?_) #[true, true, true, true, true, true, true, true, false, false, false, false, false, false, false, false, false, false, false, false, false] rfl rfl (by kernel_rfl) (fun _ _ _ h => h) (Or.inl ⟨by rfl, ?_⟩) hHeld ?_ ?_
          rotate_left
          · rintro w' ⟨s0, s1, s2, s3⟩
            go_simp
            with_reducible rfl
          rotate_left
          · simp only [Act.put, List.setIfInBounds_toArray, List.set_cons_zero, List.set_cons_succ, i64_w, i32_w]
            rfl
          refine pure_ (i := 8) (N := some 44) (v := ?_) (a' := ?_) #[true, true, true, true, true, true, true, true, true, false, false, false, false, false, false, false, false, false, false, false, false] rfl rfl (by kernel_rfl) (fun _ _ _ h => h) (Or.inl ⟨by rfl, ?_⟩) ?_ ?_
          rotate_left
          · intro w'
            go_simp
            with_reducible rfl
          rotate_left
          · simp only [Act.put, List.setIfInBounds_toArray, List.set_cons_zero, List.set_cons_succ, i64_w, i32_w]
            rfl
          refine take_ (i := 9) (N := some 45) (v := ?_) (a' := ?_) #[true, true, true, true, true, true, true, true, true, true, false, false, false, false, false, false, false, false, false, false, false] rfl rfl (by kernel_rfl) (fun _ _ _ h => h) (Or.inl ⟨by rfl, ?_⟩) hHeld ?_ ?_
          rotate_left
          · rintro w' ⟨s0, s1, s2, s3⟩
            go_simp
            with_reducible rfl
          rotate_left
          · simp only [Act.put, List.setIfInBounds_toArray, List.set_cons_zero, List.set_cons_succ, i64_w, i32_w]
            rfl
          refine pure_ (i := 10) (N := some 46) (v := ?_) (a' := ?_) #[true, true, true, true, true, true, true, true, true, true, true, false, false, false, false, false, false, false, false, false, false] rfl rfl (by kernel_rfl) (fun _ _ _ h => h) (Or.inl ⟨by rfl, ?_⟩) ?_ ?_
          rotate_left
          · intro w'
            go_simp
            with_reducible rfl
          rotate_left
          · simp only [Act.put, List.setIfInBounds_toArray, List.set_cons_zero, List.set_cons_succ, i64_w, i32_w]
            rfl
          refine pure_ (i := 11) (N := some 47) (v := ?_) (a' := ?_) #[true, true, true, true, true, true, true, true, true, true, true, true, false, false, false, false, false, false, false, false, false] rfl rfl (by kernel_rfl) (fun _ _ _ h => h) (Or.inl ⟨by rfl, ?_⟩) ?_ ?_
          rotate_left
          · intro w'
            go_simp
            with_reducible rfl
          rotate_left
          · simp only [Act.put, List.setIfInBounds_toArray, List.set_cons_zero, List.set_cons_succ, i64_w, i32_w]
            rfl
          refine take_ (i := 12) (N := some 48) (v := ?_) (a' := ?_) #[true, true, true, true, true, true, true, true, true, true, true, true, true, false, false, false, false, false, false, false, false] rfl rfl (by kernel_rfl) (fun _ _ _ h => h) (Or.inl ⟨by rfl, ?_⟩) hHeld ?_ ?_
          rotate_left
          · rintro w' ⟨s0, s1, s2, s3⟩
            go_simp
            with_reducible rfl
          rotate_left
          · simp only [Act.put, List.setIfInBounds_toArray, List.set_cons_zero, List.set_cons_succ, i64_w, i32_w]
            rfl
          refine pure_ (i := 13) (N := some 49) (v := ?_) (a' := ?_) #[true, true, true, true, true, true, true, true, true, true, true, true, true, true, false, false, false, false, false, false, false] rfl rfl (by kernel_rfl) (fun _ _ _ h => h) (Or.inl ⟨by rfl, ?_⟩) ?_ ?_
          rotate_left
          · intro w'
            go_simp
            with_reducible rfl
          rotate_left
          · simp only [Act.put, List.setIfInBounds_toArray, List.set_cons_zero, List.set_cons_succ, i64_w, i32_w]
            rfl
          refine pure_ (i := 14) (N := some 50) (v := ?_) (a' := ?_) #[true, true, true, true, true, true, true, true, true, true, true, true, true, true, true, false, false, false, false, false, false] rfl rfl (by kernel_rfl) (fun _ _ _ h => h) (Or.inl ⟨by rfl, ?_⟩) ?_ ?_
          rotate_left
          · intro w'
            go_simp
            with_reducible rfl
          rotate_left
          · simp only [Act.put, List.setIfInBounds_toArray, List.set_cons_zero, List.set_cons_succ, i64_w, i32_w]
            rfl
          refine take_ (i := 15) (N := some 51) (v := ?_) (a' := ?_) #[true, true, true, true, true, true, true, true, true, true, true, true, true, true, true, true, false, false, false, false, false] rfl rfl (by kernel_rfl) (fun _ _ _ h => h) (Or.inl ⟨by rfl, ?_⟩) hHeld ?_ ?_
          rotate_left
          · rintro w' ⟨s0, s1, s2, s3⟩
            go_simp
            with_reducible rfl
          rotate_left
          · simp only [Act.put, List.setIfInBounds_toArray, List.set_cons_zero, List.set_cons_succ, i64_w, i32_w]
            rfl
          refine one_ (i := 16) (N := some 52) #[true, true, true, true, true, true, true, true, true, true, true, true, true, true, true, true, true, false, false, false, false] rfl rfl (by kernel_rfl) (by decide) (fun K hK => ?_)
          refine goes_ Try.func70 (by kernel_rfl) rfl #[.int .u64 p, .int .u64 k, .int .u64 (rd z (j : Int))] (by rfl) rfl rfl (by (try simp only [List.map_toArray, List.map_cons, List.map_nil]); first | done | rfl | (simp only [List.length_drop, List.length_take]; rfl)) ?_
          with_reducible refine (field_Mul.calls k1 _ _ _ zk _ HK1.out).mono ?_
          rintro e w' ⟨rfl, ⟨nd, rfl⟩⟩
          refine ⟨_, rfl, ?_⟩
          refine hK.out _ _ ⟨c0', c2', hy2, hy⟩ (fun hHeld => ?_)
          clear hK K
          refine norm_ (a' := ?_) ?_ ?_
          rotate_left
          · show Act.put _ (some 52) _ = _
            simp only [Act.put, List.setIfInBounds_toArray, List.set_cons_zero, List.set_cons_succ, i64_w, i32_w]
            rfl
          refine one_ (i := 17) (N := some 53) #[true, true, true, true, true, true, true, true, true, true, true, true, true, true, true, true, true, true, false, false, false] rfl rfl (by kernel_rfl) (by decide) (fun K hK => ?_)
          refine goes_ Try.func69 (by kernel_rfl) rfl #[.int .u64 p, .int .u64 (rd l (dm.length : Int)), .int .u64 zk] (by rfl) rfl rfl (by (try simp only [List.map_toArray, List.map_cons, List.map_nil]); first | done | rfl | (simp only [List.length_drop, List.length_take]; rfl)) ?_
          with_reducible refine (field_Add.calls k2 _ _ _ x _ HK2'.out).mono ?_
          rintro e w' ⟨rfl, ⟨ne, rfl⟩⟩
          refine ⟨_, rfl, ?_⟩
          refine hK.out _ _ ⟨c0', c2', hy2, hy⟩ (fun hHeld => ?_)
          clear hK K
          refine norm_ (a' := ?_) ?_ ?_
          rotate_left
          · show Act.put _ (some 53) _ = _
            simp only [Act.put, List.setIfInBounds_toArray, List.set_cons_zero, List.set_cons_succ, i64_w, i32_w]
            rfl
          refine one_ (i := 18) (N := some 54) #[true, true, true, true, true, true, true, true, true, true, true, true, true, true, true, true, true, true, true, false, false] rfl rfl (by kernel_rfl) (by decide) (fun K hK => ?_)
          refine value_ (w1 := ?_) (v := ?_) (by rfl) rfl ?_ ?_
          rotate_left 2
          · go_simp
            constructor
            · rfl
            · rfl
          refine hK.out _ _ ⟨cell_alloc_of (n := 1) c0' _, cell_alloc_of (n := 1) c2' _, cell_alloc_of (n := 1) hy2 _, cell_alloc_of (n := 1) hy _⟩ (fun hHeld => ?_)
          clear hK K
          refine norm_ (a' := ?_) ?_ ?_
          rotate_left
          · show Act.put _ (some 54) _ = _
            simp only [Act.put, List.setIfInBounds_toArray, List.set_cons_zero, List.set_cons_succ, i64_w, i32_w]
            rfl
          refine one_ (i := 19) (N := some 55) #[true, true, true, true, true, true, true, true, true, true, true, true, true, true, true, true, true, true, true, true, false] rfl rfl (by kernel_rfl) (by decide) (fun K hK => ?_)
          refine Kd.R_append_step (Kd.int .u64) (w0 := w) w.heap.size (by rfl) (.tmp 36) (.tmp 54) 26 22 (.int .u64 0) 8 rfl Try.underlying26 info22 rfl (by decide) (by omega) (.slice A7 dm.length c7) dm x [.int .u64 x] (fun _ => True) (fun _ => False) rfl rfl ?aP (fun _ hk => hk.elim) ?aF ?aO ?aB ?aS ?aL ?_
          (case aP => exact rfl)
          (case aB => exact (by repeat (first | (with_reducible first | exact HB.out | apply below_alloc | apply pw_below_drewN | apply below_drew1) | exact HB.out)))
          (case aF => exact (fun _ _ => trivial))
          (case aO => exact (by (with_reducible repeat (first | apply Kd.R_alloc | apply Kd.R_drewN | apply Kd.R_drew)); exact HO.out))
          (case aS => exact (below_size (by repeat (first | (with_reducible first | exact HB.out | apply below_alloc | apply pw_below_drewN | apply below_drew1) | exact HB.out))))
          (case aL => have := HDL.out; omega)
          intro v2 w2 ho hb hg hat
          have hbk : w2.heap[gb]? = some (.cells #[.int .u64 p, .int .i64 (t : Int), .slice (some ad) z.length c0] 59 (0, 0)) := blk_grown (by first | exact BK.out | exact blk_drewN BK.out _) hg (Kd.R_ne HO.out BK.out (by decide))
          rw [← NM.out] at ho
          have hcz : w2.cell? (ad.add j) = some (.int .u64 (rd z (j : Int))) := by
            obtain ⟨_, e3, h3⟩ := Kd.at_int (Kd.C_below HR0.out hb) (j : Int) (by omega) (by omega)
            cases e3
            rw [Int.toNat_natCast] at h3
            exact h3
          have hcl : w2.cell? (ad2.add dm.length) = some (.int .u64 (rd l (dm.length : Int))) := by
            obtain ⟨_, e3, h3⟩ := Kd.at_int (Kd.C_below HR2.out hb) (dm.length : Int) (by omega) (by have := HDL.out; omega)
            cases e3
            rw [Int.toNat_natCast] at h3
            exact h3
          have hc0 := blk_cell hbk 0
          have hc2 := blk_cell hbk 2
          simp only [List.getElem?_toArray, List.getElem?_cons_zero, List.getElem?_cons_succ] at hc0 hc2
          refine hK.out _ _ ⟨hc0, hc2, hcl, hcz⟩ (fun hHeld => ?_)
          clear hK K
          refine norm_ (a' := ?_) ?_ ?_
          rotate_left
          · show Act.put _ (some 55) _ = _
            simp only [Act.put, List.setIfInBounds_toArray, List.set_cons_zero, List.set_cons_succ, i64_w, i32_w]
            rfl
          refine pure_ (i := 20) (N := some 7) (v := ?_) (a' := ?_) #[true, true, true, true, true, true, true, true, true, true, true, true, true, true, true, true, true, true, true, true, true] rfl rfl (by kernel_rfl) (fun _ _ _ h => h) (Or.inl ⟨by rfl, ?_⟩) ?_ ?_
          rotate_left
          · intro w'
            go_simp
            with_reducible rfl
          rotate_left
          · simp only [Act.put, List.setIfInBounds_toArray, List.set_cons_zero, List.set_cons_succ, i64_w, i32_w]
            rfl
          refine done_ (by kernel_rfl) ?_
          have HO2 := Aside0.mk ho
          have HB2 := Aside0.mk hb
          have BK2 := Aside0.mk hbk
          clear ho hb hg hat hbk hcz hcl hc0 hc2
          go_wp2
          go_roundg (t - j)
          case measure => omega
          case rel => exact ⟨j + 1, m1, by go_num, ⟨by omega⟩, ⟨by
            have h1 := HE.out
            rw [show m1.length = dm.length + 1 from by rw [NM.out]; simp]
            exact h1⟩, HO2, BK2, HB2⟩
        · have q1 : decide ((j : Int) ≤ (t : Int)) = false := decide_eq_false (by omega)
          have q2 : decide (j ≤ t) = false := decide_eq_false hlt
          have HE := Aside0.mk (show dm ++ movI p d t z l (t + 1 - (i + 1)) (i + 1) dm.length = movI p d t z l t 1 0 by
            rw [← HD.out, show t + 1 - j = 0 from by omega]
            simp [movJ])
          clear HD
          go_wp2
          go_roundg (t - i)
          case measure => have := HK.out; omega
          case rel => exact ⟨i + 1, dm, by go_num, ⟨by have := HK.out; omega⟩, HE, HO, BK, HB⟩
    · have q1 : decide ((i : Int) ≤ (t : Int)) = false := decide_eq_false (by omega)
      have q2 : decide (i ≤ t) = false := decide_eq_false hlt
      have hz0 : t + 1 - i = 0 := by omega
      have HE := Aside0.mk (show dn = movI p d t z l t 1 0 by rw [← HD.out, hz0]; simp [movI])
      clear hz0
      go_wp2
      first | go_ret | ((try simp only [Exit.inBlock, Exit.then]); refine bodyPost_ret (results_tmp rfl _ _ rfl) rfl ?_)
      exact ⟨_, rfl, by rw [← HE.out]; exact HO.out, HB.out⟩
def tapeshift_mover_rest.f (a0 a1 : Int) (z : List Int) (d : Int) (l : List Int) : Option (List Int) :=
  if supB a0 = true then (if 0 ≤ a1 then (if a1 ≤ 20 then (if resB a0 d = true then (if ressB a0 z = true then (if a1 < z.length then (if ressB a0 l = true then (if (movI a0 d a1.toNat z l a1.toNat 1 0).length ≤ l.length then (if l.length ≤ 1000 then some (movI a0 d a1.toNat z l a1.toNat 1 0) else none) else none) else none) else none) else none) else none) else none) else none) else none
theorem tapeshift_mover_rest.calls (a0 a1 : Int) (A0 : Option Addr) (c0 : Nat) (z : List Int) (d : Int) (A2 : Option Addr) (c2 : Nat) (l r : List Int) (w : World) (hr0 : Kd.C (Kd.int .u64) w A0 z.length z) (hc0 : z.length ≤ c0) (hr2 : Kd.C (Kd.int .u64) w A2 l.length l) (hc2 : l.length ≤ c2) (h : tapeshift_mover_rest.f a0 a1 z d l = some r) :
    Calls Try.prog 45 #[.agg #[.int .u64 a0, .int .i64 a1, .slice A0 z.length c0], .int .u64 d, .slice A2 l.length c2] w fun e w' => ∃ v0_ : Value, e = .returned (v0_) ∧ Kd.R (Kd.int .u64) 22 w' w.heap.size (fun _ => True) v0_ r ∧ Below w.heap.size w w' := by
  unfold tapeshift_mover_rest.f at h
  obtain ⟨h1, h⟩ := ifs h
  obtain ⟨h2, h⟩ := ifs h
  obtain ⟨h3, h⟩ := ifs h
  obtain ⟨h4, h⟩ := ifs h
  obtain ⟨h5, h⟩ := ifs h
  obtain ⟨h6, h⟩ := ifs h
  obtain ⟨h7, h⟩ := ifs h
  obtain ⟨h8, h⟩ := ifs h
  obtain ⟨h9, h⟩ := ifs h
  rw [← Option.some.inj h]
  have e : ((a1.toNat : Nat) : Int) = a1 := Int.toNat_of_nonneg h2
  have hg := rest_walk (supB_of h1) a1.toNat (by omega) (resB_iff.1 h4) A0 c0 z A2 c2 l w hr0 hc0 hr2 hc2 (fun i hi => rd_res (ressB_iff.1 h5) i (by omega)) (by omega) (fun i hi => rd_res (ressB_iff.1 h7) i hi) h8 h9
  rw [e] at hg
  exact hg
end Go.Proofs.Ytejeelpnmdfibaa.Hw
end
section
/- Printed by a program of this seat (the kit's printer, with the functions that were proved by hand given to it). What stands here: the functions that the statements reach, as plain functions, and that the Go code computes them. -/
namespace Go.Proofs.Ytejeelpnmdfibaa.Pr
open Go.RowKit Go.Proofs.YtejeelpnmdfibaaW.PrintWords Go.Proofs.YtejeelpnmdfibaaW.PrintLast Go.Proofs.YtejeelpnmdfibaaW.PrintMore
attribute [local go_sem] max2_int min2_int max_two min_two max_three min_three max_four min_four   -- for this text's walks alone
set_option linter.unusedVariables false
set_option linter.unusedSimpArgs false

open Go.Proofs.Ytejeelpnmdfibaa.Hw
/-! ### tapeshift_Sharing: function 15 -/
def tapeshift_Sharing.f (k : Nat) (a0_0 : Int) (a0_1 : Int) (a0_2 : Int) (l1 : List Int) (a2 : Int) (l3 : List Int) (l4 : List Int) : Option (List Int × List Int) := (tapeshift_of.f k a0_0 a0_1 a0_2 l1).bind fun bt247 => ((tapeshift_mover_by.f k bt247.1 bt247.2.1 bt247.2.2 a2 l3).bind fun t253 => ((tapeshift_mover_rest.f bt247.1 bt247.2.1 bt247.2.2 a2 l4).bind fun t256 => (some (t253, t256))))
theorem tapeshift_Sharing.mono : ∀ a0 a1 a2 a3 a4 a5 a6 k, LeO (tapeshift_Sharing.f k a0 a1 a2 a3 a4 a5 a6) (tapeshift_Sharing.f (k + 1) a0 a1 a2 a3 a4 a5 a6) := by
 intro a0 a1 a2 a3 a4 a5 a6 k
 unfold tapeshift_Sharing.f
 repeat' first
   | (with_reducible exact tapeshift_mover_by.mono _ _ _ _ _ _)
   | (with_reducible exact tapeshift_of.mono _ _ _ _ _)
   | (with_reducible exact LeO.refl _)
   | (with_reducible exact LeO.none _)
   | (with_reducible refine LeO.ite ?_ ?_)
   | (with_reducible refine LeO.bind ?_ (fun _ => ?_))
   | exact tapeshift_mover_by.mono _ _ _ _ _ _
   | exact tapeshift_of.mono _ _ _ _ _
   | exact LeO.none _
   | refine LeO.ite ?_ ?_
   | refine LeO.bind ?_ (fun _ => ?_)
def tapeshift_Sharing.T2 : Bool × List (List Nat × List Nat) := (true, [([], []), ([], []), ([], []), ([0, 1, 2], [0, 1, 2]), ([], []), ([], []), ([], []), ([4, 5, 6, 3], [4, 5, 6]), ([3, 7, 0, 1, 2, 3], [3]), ([7, 8, 0, 1, 2, 3, 4, 5, 6, 7, 8], [7])])
def tapeshift_Sharing.B2 : List Nat := [0, 0, 0, 7, 0, 0, 0, 127, 255, 511]
theorem tapeshift_Sharing.tab2 : rtab .any (opsOf Try.f15 2) = tapeshift_Sharing.T2 := by kernel_rfl
theorem tapeshift_Sharing.bits2 : waitsOk tapeshift_Sharing.T2.2 tapeshift_Sharing.B2 = true := by kernel_rfl
set_option maxHeartbeats 8000000 in
set_option maxRecDepth 100000 in
theorem tapeshift_Sharing.calls (k : Nat) (a0_0 : Int) (a0_1 : Int) (a0_2 : Int) (A1 : Option Addr) (c1 : Nat) (l1 : List Int) (a2 : Int) (A3 : Option Addr) (c3 : Nat) (l3 : List Int) (A4 : Option Addr) (c4 : Nat) (l4 : List Int) (r1 : List Int) (r2 : List Int) (w : World) (hr1 : Kd.C (Kd.int .i64) w A1 l1.length l1) (hc1 : l1.length ≤ c1) (hr3 : Kd.C (Kd.int .u64) w A3 l3.length l3) (hc3 : l3.length ≤ c3) (hr4 : Kd.C (Kd.int .u64) w A4 l4.length l4) (hc4 : l4.length ≤ c4) (h : tapeshift_Sharing.f k a0_0 a0_1 a0_2 l1 a2 l3 l4 = some (r1, r2)) :
  Calls Try.prog 15 #[.agg #[.int .u64 a0_0,.int .i64 a0_1,.int .i64 a0_2],.slice A1 l1.length c1,.int .u64 a2,.slice A3 l3.length c3,.slice A4 l4.length c4] w fun e w' => ∃ v0_ v1_ : Value,e = .returned (.tuple #[v0_,v1_]) ∧ Kd.R (Kd.int .u64) 22 w' w.heap.size (fun k_ => some k_ ≠ (v1_ : Value).ownBlock) v0_ r1 ∧ Kd.R (Kd.int .u64) 22 w' w.heap.size (fun k_ => some k_ ≠ (v0_ : Value).ownBlock) v1_ r2 ∧ Below w.heap.size w w' := by
 have hu24 := Try.underlying24
 have hu59 := Try.underlying59
 have HR1 := Aside0.mk hr1
 have HC1 := Aside0.mk hc1
 clear hr1 hc1
 have HR3 := Aside0.mk hr3
 have HC3 := Aside0.mk hc3
 clear hr3 hc3
 have HR4 := Aside0.mk hr4
 have HC4 := Aside0.mk hc4
 clear hr4 hc4
 have HB := Aside0.mk (Below.refl w.heap.size w)
 have H : ((tapeshift_of.f k a0_0 a0_1 a0_2 l1).bind fun bt247 => ((tapeshift_mover_by.f k bt247.1 bt247.2.1 bt247.2.2 a2 l3).bind fun t253 => ((tapeshift_mover_rest.f bt247.1 bt247.2.1 bt247.2.2 a2 l4).bind fun t256 => (some (t253,t256))))) = some (r1,r2) := h
 clear h
 replace H := Option.bind_eq_some_iff.mp H
 obtain ⟨⟨t247,t248,t249⟩,A60,H⟩ := H
 replace H : ((tapeshift_mover_by.f k t247 t248 t249 a2 l3).bind fun t253 => ((tapeshift_mover_rest.f t247 t248 t249 a2 l4).bind fun t256 => (some (t253,t256)))) = some (r1,r2) := H
 have A6 := Aside0.mk A60
 clear A60
 replace H := Option.bind_eq_some_iff.mp H
 obtain ⟨t253,A70,H⟩ := H
 replace H : ((tapeshift_mover_rest.f t247 t248 t249 a2 l4).bind fun t256 => (some (t253,t256))) = some (r1,r2) := H
 have A7 := Aside0.mk A70
 clear A70
 replace H := Option.bind_eq_some_iff.mp H
 obtain ⟨t256,A80,H⟩ := H
 replace H : (some (t253,t256)) = some (r1,r2) := H
 have A8 := Aside0.mk A80
 clear A80
 simp only [Option.some.injEq,Prod.mk.injEq] at H
 obtain ⟨rfl,rfl⟩ := H
 go_enter Try.func15,Try.ntmps15
 try go_wp2_with (first|((with_reducible refine gate_dst (N := 5) rfl ?_);refine box_event ?hg (N := 5) ?hd (cs := #[.int .u64 a0_0,.int .i64 a0_1,.int .i64 a0_2]) (t := 24) ?hr ?_;(case hd => rfl);(case hg => rfl);(case hr => first|(go_simp;done)|(go_simp;rfl));intro gb246 hg w9 hbox hb;have n0_ := Aside0.mk (below_step (by repeat (first|(with_reducible first|exact HB.out|apply below_alloc|apply pw_below_drewN|apply below_drew1)|exact HB.out)) hb);have n1_ := Aside0.mk (hbox);have n2_ := Aside0.mk ((by rw [hg];exact (below_size (by repeat (first|(with_reducible first|exact HB.out|apply below_alloc|apply pw_below_drewN|apply below_drew1)|exact HB.out))) : w.heap.size ≤ gb246));have n3_ := Aside0.mk ((by rw [hg];exact (below_size (by repeat (first|(with_reducible first|exact HB.out|apply below_alloc|apply pw_below_drewN|apply below_drew1)|exact HB.out))) : w.heap.size ≤ gb246));clear HB;have HB := n0_;have BK246 := n1_;have GW246 := n2_;have GE246 := n3_;clear n0_ n1_ n2_ n3_;clear hb hbox hg;have hcz10_0 : w9.cell? ⟨gb246,0,none⟩ = some (.int .u64 a0_0) := (blk_cell BK246.out 0).trans rfl;have hcz10_1 : w9.cell? ⟨gb246,1,none⟩ = some (.int .i64 a0_1) := (blk_cell BK246.out 1).trans rfl;have hcz10_2 : w9.cell? ⟨gb246,2,none⟩ = some (.int .i64 a0_2) := (blk_cell BK246.out 2).trans rfl;have hfz10_0 := blk_frozen BK246.out 0;have hfz10_1 := blk_frozen BK246.out 1;have hfz10_2 := blk_frozen BK246.out 2)|((with_reducible refine gate_callee (f := 43) rfl ?_);refine goesL_ (some 15) rfl rfl Try.func43 (by kernel_rfl) rfl #[.agg #[.int .u64 a0_0,.int .i64 a0_1,.int .i64 a0_2],.slice A1 l1.length c1] rfl (by (try simp only [List.map_toArray,List.map_cons,List.map_nil]);first|done|rfl|(simp only [List.length_drop,List.length_take];rfl)) ?_;(with_reducible refine (tapeshift_of.calls k a0_0 a0_1 a0_2 _ _ l1 t247 t248 t249 _ ?side1 ?side2 A6.out).mono ?_);(case side1 => repeat (first|exact (Kd.C_below HR1.out HB.out)|(with_reducible refine Kd.C_alloc ?_ _)|(with_reducible refine Kd.C_drewN ?_ _)|(with_reducible refine Kd.C_drew ?_)));(case side2 => exact HC1.out);rintro e w11 ⟨v250,rfl,ho0,hb⟩;refine ⟨_,rfl,?_⟩;have n0_ := Aside0.mk (Kd.R_lower ho0 (below_size (by repeat (first|(with_reducible first|exact HB.out|apply below_alloc|apply pw_below_drewN|apply below_drew1|refine below_set ?_ GE246.out)|exact HB.out))));have n1_ := Aside0.mk (blk_below (g := gb246) (o := .cells #[.int .u64 a0_0,.int .i64 a0_1,.int .i64 a0_2] 24 (0,0)) (by (with_reducible repeat (first|refine blk_drewN ?_ _|refine blk_drew ?_|refine blk_alloc ?_ _));exact BK246.out) hb);have n2_ := Aside0.mk (below_step (by repeat (first|(with_reducible first|exact HB.out|apply below_alloc|apply pw_below_drewN|apply below_drew1|refine below_set ?_ GE246.out)|exact HB.out)) hb);clear BK246;clear HB;have HO251 := n0_;have BK246 := n1_;have HB := n2_;clear n0_ n1_ n2_;(try clear hb);(try clear hb2);(try clear hk);(try clear hi);(try clear ho0))|((with_reducible refine gate_dst (N := 12) rfl ?_);refine box_event ?hg (N := 12) ?hd (cs := #[.int .u64 0,.int .i64 0,.slice none 0 0]) (t := 59) ?hr ?_;(case hd => rfl);(case hg => rfl);(case hr => first|(go_simp;done)|(go_simp;rfl));intro gb252 hg w12 hbox hb;have n0_ := Aside0.mk (Kd.R_below (by (with_reducible repeat (first|apply Kd.R_alloc|apply Kd.R_drewN|apply Kd.R_drew));exact HO251.out) hb);have n1_ := Aside0.mk (blk_below (g := gb246) (o := .cells #[.int .u64 a0_0,.int .i64 a0_1,.int .i64 a0_2] 24 (0,0)) (by (with_reducible repeat (first|refine blk_drewN ?_ _|refine blk_drew ?_|refine blk_alloc ?_ _));exact BK246.out) hb);have n2_ := Aside0.mk (below_step (by repeat (first|(with_reducible first|exact HB.out|apply below_alloc|apply pw_below_drewN|apply below_drew1|refine below_set ?_ GE246.out)|exact HB.out)) hb);have n3_ := Aside0.mk (hbox);have n4_ := Aside0.mk ((by rw [hg];exact (below_size (by repeat (first|(with_reducible first|exact HB.out|apply below_alloc|apply pw_below_drewN|apply below_drew1|refine below_set ?_ GE246.out)|exact HB.out))) : w.heap.size ≤ gb252));have n5_ := Aside0.mk ((by rw [hg];exact (below_size (by repeat (first|(with_reducible first|exact HB.out|apply below_alloc|apply pw_below_drewN|apply below_drew1|refine below_set ?_ GE246.out)|exact HB.out))) : w.heap.size ≤ gb252));have n6_ := Aside0.mk ((by rw [hg];exact Nat.ne_of_lt (blk_lt (g := gb246) (o := .cells #[.int .u64 a0_0,.int .i64 a0_1,.int .i64 a0_2] 24 (0,0)) (by (with_reducible repeat (first|refine blk_drewN ?_ _|refine blk_drew ?_|refine blk_alloc ?_ _));exact BK246.out)) : gb246 ≠ gb252));have n7_ := Aside0.mk ((by rw [hg];exact Nat.ne_of_gt (blk_lt (g := gb246) (o := .cells #[.int .u64 a0_0,.int .i64 a0_1,.int .i64 a0_2] 24 (0,0)) (by (with_reducible repeat (first|refine blk_drewN ?_ _|refine blk_drew ?_|refine blk_alloc ?_ _));exact BK246.out)) : gb252 ≠ gb246));clear HO251;clear BK246;clear HB;have HO251 := n0_;have BK246 := n1_;have HB := n2_;have BK252 := n3_;have GW252 := n4_;have GE252 := n5_;have NB246_252 := n6_;have NB252_246 := n7_;clear n0_ n1_ n2_ n3_ n4_ n5_ n6_ n7_;clear hb hbox hg;have hnb13 := NB252_246.out;have hnc13 := NB246_252.out;have hcz14_0 : w12.cell? ⟨gb252,0,none⟩ = some (.int .u64 0) := (blk_cell BK252.out 0).trans rfl;have hcz14_1 : w12.cell? ⟨gb252,1,none⟩ = some (.int .i64 0) := (blk_cell BK252.out 1).trans rfl;have hcz14_2 : w12.cell? ⟨gb252,2,none⟩ = some (.slice none 0 0) := (blk_cell BK252.out 2).trans rfl;have hfz14_0 := blk_frozen BK252.out 0;have hfz14_1 := blk_frozen BK252.out 1;have hfz14_2 := blk_frozen BK252.out 2;obtain ⟨Ao15,co15,eo15⟩ := Kd.R_slice HO251.out;subst eo15))
 have n0_ : Aside0 (Kd.R (Kd.int .u64) 22 (((w12.setCell ⟨gb252,0,none⟩ (.int .u64 t247)).setCell ⟨gb252,1,none⟩ (.int .i64 t248)).setCell ⟨gb252,2,none⟩ (.slice Ao15 t249.length co15)) w.heap.size (fun _ => True) (.slice Ao15 t249.length co15) t249) := ⟨by (with_reducible repeat (first|apply Kd.R_alloc|apply Kd.R_drewN|apply Kd.R_drew));exact Kd.R_mono (Kd.R_far (p := ⟨gb252,2,none⟩) (Kd.R_far (p := ⟨gb252,1,none⟩) (Kd.R_far (p := ⟨gb252,0,none⟩) (Kd.R_types HO251.out BK252.out (by decide)) (fun _ hk => hk.2) (.int .u64 t247)) (fun _ hk => hk.2) (.int .i64 t248)) (fun _ hk => hk.2) (.slice Ao15 t249.length co15)) (fun _ hk => trivial)⟩
 have n1_ : Aside0 ((((w12.setCell ⟨gb252,0,none⟩ (.int .u64 t247)).setCell ⟨gb252,1,none⟩ (.int .i64 t248)).setCell ⟨gb252,2,none⟩ (.slice Ao15 t249.length co15)).heap[gb246]? = some (.cells #[.int .u64 a0_0,.int .i64 a0_1,.int .i64 a0_2] 24 (0,0))) := ⟨by (with_reducible repeat (first|refine blk_drewN ?_ _|refine blk_drew ?_|refine blk_alloc ?_ _));refine blk_far ?_ NB246_252.out _;(with_reducible repeat (first|refine blk_drewN ?_ _|refine blk_drew ?_|refine blk_alloc ?_ _));refine blk_far ?_ NB246_252.out _;(with_reducible repeat (first|refine blk_drewN ?_ _|refine blk_drew ?_|refine blk_alloc ?_ _));refine blk_far ?_ NB246_252.out _;(with_reducible repeat (first|refine blk_drewN ?_ _|refine blk_drew ?_|refine blk_alloc ?_ _));exact BK246.out⟩
 have n2_ : Aside0 ((((w12.setCell ⟨gb252,0,none⟩ (.int .u64 t247)).setCell ⟨gb252,1,none⟩ (.int .i64 t248)).setCell ⟨gb252,2,none⟩ (.slice Ao15 t249.length co15)).heap[gb252]? = some (.cells #[.int .u64 t247,.int .i64 t248,.slice Ao15 t249.length co15] 59 (0,0))) := ⟨by (with_reducible repeat (first|refine blk_drewN ?_ _|refine blk_drew ?_|refine blk_alloc ?_ _));refine blk_put (cs := #[.int .u64 t247,.int .i64 t248,.slice none 0 0]) ?_ 2 _ rfl;(with_reducible repeat (first|refine blk_drewN ?_ _|refine blk_drew ?_|refine blk_alloc ?_ _));refine blk_put (cs := #[.int .u64 t247,.int .i64 0,.slice none 0 0]) ?_ 1 _ rfl;(with_reducible repeat (first|refine blk_drewN ?_ _|refine blk_drew ?_|refine blk_alloc ?_ _));refine blk_put (cs := #[.int .u64 0,.int .i64 0,.slice none 0 0]) ?_ 0 _ rfl;(with_reducible repeat (first|refine blk_drewN ?_ _|refine blk_drew ?_|refine blk_alloc ?_ _));exact BK252.out⟩
 have n3_ : Aside0 (Below w.heap.size w (((w12.setCell ⟨gb252,0,none⟩ (.int .u64 t247)).setCell ⟨gb252,1,none⟩ (.int .i64 t248)).setCell ⟨gb252,2,none⟩ (.slice Ao15 t249.length co15))) := ⟨by repeat (first|(with_reducible first|exact HB.out|apply below_alloc|apply pw_below_drewN|apply below_drew1|refine below_set ?_ GE246.out|refine below_set ?_ GE252.out)|exact HB.out)⟩
 (try clear HO251)
 (try clear BK246)
 (try clear BK252)
 (try clear HB)
 generalize (((w12.setCell ⟨gb252,0,none⟩ (.int .u64 t247)).setCell ⟨gb252,1,none⟩ (.int .i64 t248)).setCell ⟨gb252,2,none⟩ (.slice Ao15 t249.length co15)) = w16 at n0_ n1_ n2_ n3_ ⊢
 have HO251 := n0_
 have BK246 := n1_
 have BK252 := n2_
 have HB := n3_
 clear n0_ n1_ n2_ n3_
 have n0_ := Aside0.mk (Kd.R_drew HO251.out)
 have n1_ := Aside0.mk (blk_drew BK246.out)
 have n2_ := Aside0.mk (blk_drew BK252.out)
 have n3_ := Aside0.mk (below_drew1 HB.out)
 clear HO251
 clear BK246
 clear BK252
 clear HB
 have HO251 := n0_
 have BK246 := n1_
 have BK252 := n2_
 have HB := n3_
 clear n0_ n1_ n2_ n3_
 refine start_ (n := 10) (S := fun w' => w'.cell? ⟨gb252,0,none⟩ = some (.int .u64 t247) ∧ w'.cell? ⟨gb252,1,none⟩ = some (.int .i64 t248) ∧ w'.cell? ⟨gb252,2,none⟩ = some (.slice Ao15 t249.length co15)) (ds := []) #[false,false,false,false,false,false,false,false,false,false] (by kernel_rfl) rfl rfl ⟨(blk_cell BK252.out 0).trans rfl,(blk_cell BK252.out 1).trans rfl,(blk_cell BK252.out 2).trans rfl⟩ (fun hHeld => ?_);refine with_tabW tapeshift_Sharing.tab2 tapeshift_Sharing.bits2 (fun HT_ HW_ => ?_)
 generalize w16.drew = w17 at HO251 BK246 BK252 HB hHeld ⊢
 refine pure_ (i := 1) (N := some 17) (v := ?_) (a' := ?_) #[false,true,false,false,false,false,false,false,false,false] rfl rfl (any_of HT_.out (by kernel_rfl)) (fun _ _ _ h => h) (Or.inl ⟨by rfl,?_⟩) ?_ ?_
 rotate_left
 ·intro w'
  go_simp
  with_reducible rfl
 rotate_left
 ·simp only [Act.put,List.setIfInBounds_toArray,List.set_cons_zero,List.set_cons_succ,i64_w,i32_w]
  rfl
 refine pure_ (i := 2) (N := some 18) (v := ?_) (a' := ?_) #[false,true,true,false,false,false,false,false,false,false] rfl rfl (any_of HT_.out (by kernel_rfl)) (fun _ _ _ h => h) (Or.inl ⟨by rfl,?_⟩) ?_ ?_
 rotate_left
 ·intro w'
  go_simp
  with_reducible rfl
 rotate_left
 ·simp only [Act.put,List.setIfInBounds_toArray,List.set_cons_zero,List.set_cons_succ,i64_w,i32_w]
  rfl
 refine pure_ (i := 5) (N := some 21) (v := ?_) (a' := ?_) #[false,true,true,false,false,true,false,false,false,false] rfl rfl (any_of HT_.out (by kernel_rfl)) (fun _ _ _ h => h) (Or.inl ⟨by rfl,?_⟩) ?_ ?_
 rotate_left
 ·intro w'
  go_simp
  with_reducible rfl
 rotate_left
 ·simp only [Act.put,List.setIfInBounds_toArray,List.set_cons_zero,List.set_cons_succ,i64_w,i32_w]
  rfl
 refine pure_ (i := 6) (N := some 22) (v := ?_) (a' := ?_) #[false,true,true,false,false,true,true,false,false,false] rfl rfl (any_of HT_.out (by kernel_rfl)) (fun _ _ _ h => h) (Or.inl ⟨by rfl,?_⟩) ?_ ?_
 rotate_left
 ·intro w'
  go_simp
  with_reducible rfl
 rotate_left
 ·simp only [Act.put,List.setIfInBounds_toArray,List.set_cons_zero,List.set_cons_succ,i64_w,i32_w]
  rfl
 refine take_ (i := 0) (N := some 16) (v := ?_) (a' := ?_) #[true,true,true,false,false,true,true,false,false,false] rfl rfl (take_ofW HT_.out HW_.out (by kernel_rfl)) (fun _ _ _ h => h) (Or.inl ⟨by rfl,?_⟩) hHeld ?_ ?_
 rotate_left
 ·rintro w' ⟨s0,s1,s2⟩
  go_simp
  with_reducible rfl
 rotate_left
 ·simp only [Act.put,List.setIfInBounds_toArray,List.set_cons_zero,List.set_cons_succ,i64_w,i32_w]
  rfl
 refine take_ (i := 4) (N := some 20) (v := ?_) (a' := ?_) #[true,true,true,false,true,true,true,false,false,false] rfl rfl (take_ofW HT_.out HW_.out (by kernel_rfl)) (fun _ _ _ h => h) (Or.inl ⟨by rfl,?_⟩) hHeld ?_ ?_
 rotate_left
 ·rintro w' ⟨s0,s1,s2⟩
  go_simp
  with_reducible rfl
 rotate_left
 ·simp only [Act.put,List.setIfInBounds_toArray,List.set_cons_zero,List.set_cons_succ,i64_w,i32_w]
  rfl
 refine one_ (i := 3) (N := some 19) #[true,true,true,true,true,true,true,false,false,false] rfl rfl (one_of HT_.out (by kernel_rfl)) (by decide) (fun K hK => ?_)
 refine goes_ Try.func44 (by kernel_rfl) rfl #[.agg #[.int .u64 t247,.int .i64 t248,.slice Ao15 t249.length co15],.int .u64 a2,.slice A3 l3.length c3] (by rfl) rfl rfl (by (try simp only [List.map_toArray,List.map_cons,List.map_nil]);first|done|rfl|(simp only [List.length_drop,List.length_take];rfl)) ?_
 with_reducible refine (tapeshift_mover_by.calls k t247 t248 _ _ t249 a2 _ _ l3 t253 _ ?side1 ?side2 ?side3 ?side4 A7.out).mono ?_
 (case side1 => repeat (first|exact (Kd.R_reads' HO251.out).2.2|(with_reducible refine Kd.C_alloc ?_ _)|(with_reducible refine Kd.C_drewN ?_ _)|(with_reducible refine Kd.C_drew ?_)))
 (case side2 => exact (Kd.R_reads' HO251.out).2.1)
 (case side3 => repeat (first|exact (Kd.C_below HR3.out HB.out)|(with_reducible refine Kd.C_alloc ?_ _)|(with_reducible refine Kd.C_drewN ?_ _)|(with_reducible refine Kd.C_drew ?_)))
 (case side4 => exact HC3.out)
 rintro e w18 ⟨v254,rfl,ho0,hb⟩
 refine ⟨_,rfl,?_⟩
 have n0_ := Aside0.mk (Kd.R_elder' (by (with_reducible repeat (first|apply Kd.R_alloc|apply Kd.R_drewN|apply Kd.R_drew));exact HO251.out) (Kd.R_base ho0) hb)
 have n1_ := Aside0.mk (Kd.R_lower (Kd.R_new' ho0 (Kd.R_lt (by (with_reducible repeat (first|apply Kd.R_alloc|apply Kd.R_drewN|apply Kd.R_drew));exact HO251.out))) (below_size (by repeat (first|(with_reducible first|exact HB.out|apply below_alloc|apply pw_below_drewN|apply below_drew1|refine below_set ?_ GE246.out|refine below_set ?_ GE252.out)|exact HB.out))))
 have n2_ := Aside0.mk (blk_below (g := gb246) (o := .cells #[.int .u64 a0_0,.int .i64 a0_1,.int .i64 a0_2] 24 (0,0)) (by (with_reducible repeat (first|refine blk_drewN ?_ _|refine blk_drew ?_|refine blk_alloc ?_ _));exact BK246.out) hb)
 have n3_ := Aside0.mk (blk_below (g := gb252) (o := .cells #[.int .u64 t247,.int .i64 t248,.slice Ao15 t249.length co15] 59 (0,0)) (by (with_reducible repeat (first|refine blk_drewN ?_ _|refine blk_drew ?_|refine blk_alloc ?_ _));exact BK252.out) hb)
 have n4_ := Aside0.mk (below_step (by repeat (first|(with_reducible first|exact HB.out|apply below_alloc|apply pw_below_drewN|apply below_drew1|refine below_set ?_ GE246.out|refine below_set ?_ GE252.out)|exact HB.out)) hb)
 clear HO251
 clear BK246
 clear BK252
 clear HB
 have HO251 := n0_
 have HO255 := n1_
 have BK246 := n2_
 have BK252 := n3_
 have HB := n4_
 clear n0_ n1_ n2_ n3_ n4_
 (try clear hb)
 (try clear hb2)
 (try clear hk)
 (try clear hi)
 (try clear ho0)
 refine hK.out _ _ ⟨(blk_cell BK252.out 0).trans rfl,(blk_cell BK252.out 1).trans rfl,(blk_cell BK252.out 2).trans rfl⟩ (fun hHeld => ?_)
 clear hK K
 refine norm_ (a' := ?_) ?_ ?_
 rotate_left
 ·show Act.put _ (some 19) _ = _
  simp only [Act.put,List.setIfInBounds_toArray,List.set_cons_zero,List.set_cons_succ,i64_w,i32_w]
  rfl
 refine one_ (i := 7) (N := some 23) #[true,true,true,true,true,true,true,true,false,false] rfl rfl (one_of HT_.out (by kernel_rfl)) (by decide) (fun K hK => ?_)
 refine goes_ Try.func45 (by kernel_rfl) rfl #[.agg #[.int .u64 t247,.int .i64 t248,.slice Ao15 t249.length co15],.int .u64 a2,.slice A4 l4.length c4] (by rfl) rfl rfl (by (try simp only [List.map_toArray,List.map_cons,List.map_nil]);first|done|rfl|(simp only [List.length_drop,List.length_take];rfl)) ?_
 with_reducible refine (tapeshift_mover_rest.calls t247 t248 _ _ t249 a2 _ _ l4 t256 _ ?side1 ?side2 ?side3 ?side4 A8.out).mono ?_
 (case side1 => repeat (first|exact (Kd.R_reads' HO251.out).2.2|(with_reducible refine Kd.C_alloc ?_ _)|(with_reducible refine Kd.C_drewN ?_ _)|(with_reducible refine Kd.C_drew ?_)))
 (case side2 => exact (Kd.R_reads' HO251.out).2.1)
 (case side3 => repeat (first|exact (Kd.C_below HR4.out HB.out)|(with_reducible refine Kd.C_alloc ?_ _)|(with_reducible refine Kd.C_drewN ?_ _)|(with_reducible refine Kd.C_drew ?_)))
 (case side4 => exact HC4.out)
 rintro e w19 ⟨v257,rfl,ho0,hb⟩
 refine ⟨_,rfl,?_⟩
 have n0_ := Aside0.mk (Kd.R_elder' (by (with_reducible repeat (first|apply Kd.R_alloc|apply Kd.R_drewN|apply Kd.R_drew));exact HO251.out) (Kd.R_base ho0) hb)
 have n1_ := Aside0.mk (Kd.R_elder' (by (with_reducible repeat (first|apply Kd.R_alloc|apply Kd.R_drewN|apply Kd.R_drew));exact HO255.out) (Kd.R_base ho0) hb)
 have n2_ := Aside0.mk (Kd.R_lower (Kd.R_new' (Kd.R_new' ho0 (Kd.R_lt (by (with_reducible repeat (first|apply Kd.R_alloc|apply Kd.R_drewN|apply Kd.R_drew));exact HO251.out))) (Kd.R_lt (by (with_reducible repeat (first|apply Kd.R_alloc|apply Kd.R_drewN|apply Kd.R_drew));exact HO255.out))) (below_size (by repeat (first|(with_reducible first|exact HB.out|apply below_alloc|apply pw_below_drewN|apply below_drew1|refine below_set ?_ GE246.out|refine below_set ?_ GE252.out)|exact HB.out))))
 have n3_ := Aside0.mk (blk_below (g := gb246) (o := .cells #[.int .u64 a0_0,.int .i64 a0_1,.int .i64 a0_2] 24 (0,0)) (by (with_reducible repeat (first|refine blk_drewN ?_ _|refine blk_drew ?_|refine blk_alloc ?_ _));exact BK246.out) hb)
 have n4_ := Aside0.mk (blk_below (g := gb252) (o := .cells #[.int .u64 t247,.int .i64 t248,.slice Ao15 t249.length co15] 59 (0,0)) (by (with_reducible repeat (first|refine blk_drewN ?_ _|refine blk_drew ?_|refine blk_alloc ?_ _));exact BK252.out) hb)
 have n5_ := Aside0.mk (below_step (by repeat (first|(with_reducible first|exact HB.out|apply below_alloc|apply pw_below_drewN|apply below_drew1|refine below_set ?_ GE246.out|refine below_set ?_ GE252.out)|exact HB.out)) hb)
 clear HO251
 clear HO255
 clear BK246
 clear BK252
 clear HB
 have HO251 := n0_
 have HO255 := n1_
 have HO258 := n2_
 have BK246 := n3_
 have BK252 := n4_
 have HB := n5_
 clear n0_ n1_ n2_ n3_ n4_ n5_
 (try clear hb)
 (try clear hb2)
 (try clear hk)
 (try clear hi)
 (try clear ho0)
 refine hK.out _ _ ⟨(blk_cell BK252.out 0).trans rfl,(blk_cell BK252.out 1).trans rfl,(blk_cell BK252.out 2).trans rfl⟩ (fun hHeld => ?_)
 clear hK K
 refine norm_ (a' := ?_) ?_ ?_
 rotate_left
 ·show Act.put _ (some 23) _ = _
  simp only [Act.put,List.setIfInBounds_toArray,List.set_cons_zero,List.set_cons_succ,i64_w,i32_w]
  rfl
 refine pure_ (i := 8) (N := some 10) (v := ?_) (a' := ?_) #[true,true,true,true,true,true,true,true,true,false] rfl rfl (any_of HT_.out (by kernel_rfl)) (fun _ _ _ h => h) (Or.inl ⟨by rfl,?_⟩) ?_ ?_
 rotate_left
 ·intro w'
  go_simp
  with_reducible rfl
 rotate_left
 ·simp only [Act.put,List.setIfInBounds_toArray,List.set_cons_zero,List.set_cons_succ,i64_w,i32_w]
  rfl
 refine pure_ (i := 9) (N := some 11) (v := ?_) (a' := ?_) #[true,true,true,true,true,true,true,true,true,true] rfl rfl (any_of HT_.out (by kernel_rfl)) (fun _ _ _ h => h) (Or.inl ⟨by rfl,?_⟩) ?_ ?_
 rotate_left
 ·intro w'
  go_simp
  with_reducible rfl
 rotate_left
 ·simp only [Act.put,List.setIfInBounds_toArray,List.set_cons_zero,List.set_cons_succ,i64_w,i32_w]
  rfl
 refine done_ (done_of HT_.out (by kernel_rfl)) ?_
 try go_wp2
 go_ret2
 exact ⟨_,_,by first|rfl|(simp [errW_none,errW_some] <;> rfl)|(simp [*,errW_none,errW_some] <;> rfl),by (with_reducible repeat (first|apply Kd.R_alloc|apply Kd.R_drewN|apply Kd.R_drew));exact Kd.R_mono HO255.out (fun _ hk => hk.2),by (with_reducible repeat (first|apply Kd.R_alloc|apply Kd.R_drewN|apply Kd.R_drew));exact Kd.R_mono HO258.out (fun _ hk => hk.2),by repeat (first|(with_reducible first|exact HB.out|apply below_alloc|apply pw_below_drewN|apply below_drew1|refine below_set ?_ GE246.out|refine below_set ?_ GE252.out)|exact HB.out)⟩
end Go.Proofs.Ytejeelpnmdfibaa.Pr
end
section
/- Printed by a program of this seat (the kit's printer, with the functions that were proved by hand given to it). What stands here: the functions that the statements reach, as plain functions, and that the Go code computes them. -/
namespace Go.Proofs.Ytejeelpnmdfibaa.Pr
open Go.RowKit Go.Proofs.YtejeelpnmdfibaaW.PrintWords Go.Proofs.YtejeelpnmdfibaaW.PrintLast Go.Proofs.YtejeelpnmdfibaaW.PrintMore
attribute [local go_sem] max2_int min2_int max_two min_two max_three min_three max_four min_four   -- for this text's walks alone
set_option linter.unusedVariables false
set_option linter.unusedSimpArgs false

open Go.Proofs.Ytejeelpnmdfibaa.Hw
/-! ### privityref14_Words: function 18 -/
def privityref14_Words.l0 : Nat → List Int → List Int → Int → Option (Bool)
 | 0,_,_,_ => none
 | k + 1,x0,x1,x5 => if x5 < (x0.length : Int) then (if 0 ≤ x5 then (if x5 < (x1.length : Int) then (if (rd x0 x5) = (rd x1 x5) then (privityref14_Words.l0 k x0 x1 (wrap64 (x5 + 1))) else (some false)) else (none)) else (none)) else (some true)
def privityref14_Words.f (k : Nat) (l0 : List Int) (l1 : List Int) : Option (Bool) := if (l0.length : Int) = (l1.length : Int) then (privityref14_Words.l0 k l0 l1 0) else (some false)
theorem privityref14_Words.mono_l : ∀ k, (∀ y0 y1 y2, LeO (privityref14_Words.l0 k y0 y1 y2) (privityref14_Words.l0 (k + 1) y0 y1 y2))
 | 0 => fun _ _ _ r h => by simp [privityref14_Words.l0] at h
 | k + 1 => by
  have ih0 := privityref14_Words.mono_l k
  ·intro y0 y1 y2
   unfold privityref14_Words.l0
   repeat' first
   | (with_reducible exact ih0 _ _ _)
   | (with_reducible exact LeO.refl _)
   | (with_reducible exact LeO.none _)
   | (with_reducible refine LeO.ite ?_ ?_)
   | (with_reducible refine LeO.bind ?_ (fun _ => ?_))
   | exact ih0 _ _ _
   | exact LeO.none _
   | refine LeO.ite ?_ ?_
   | refine LeO.bind ?_ (fun _ => ?_)
theorem privityref14_Words.mono : ∀ a0 a1 k, LeO (privityref14_Words.f k a0 a1) (privityref14_Words.f (k + 1) a0 a1) := by
 intro a0 a1 k
 have ih0 := privityref14_Words.mono_l k
 unfold privityref14_Words.f
 repeat' first
   | (with_reducible exact ih0 _ _ _)
   | (with_reducible exact LeO.refl _)
   | (with_reducible exact LeO.none _)
   | (with_reducible refine LeO.ite ?_ ?_)
   | (with_reducible refine LeO.bind ?_ (fun _ => ?_))
   | exact ih0 _ _ _
   | exact LeO.none _
   | refine LeO.ite ?_ ?_
   | refine LeO.bind ?_ (fun _ => ?_)
set_option maxHeartbeats 8000000 in
set_option maxRecDepth 100000 in
theorem privityref14_Words.calls (k : Nat) (A0 : Option Addr) (c0 : Nat) (l0 : List Int) (A1 : Option Addr) (c1 : Nat) (l1 : List Int) (r : Bool) (w : World) (hr0 : Kd.C (Kd.int .u64) w A0 l0.length l0) (hc0 : l0.length ≤ c0) (hr1 : Kd.C (Kd.int .u64) w A1 l1.length l1) (hc1 : l1.length ≤ c1) (h : privityref14_Words.f k l0 l1 = some r) :
  Calls Try.prog 18 #[.slice A0 l0.length c0,.slice A1 l1.length c1] w fun e w' => e = .returned (.bool r) ∧ Drawn0 w w' := by
 have HR0 := Aside0.mk hr0
 have HC0 := Aside0.mk hc0
 clear hr0 hc0
 have HR1 := Aside0.mk hr1
 have HC1 := Aside0.mk hc1
 clear hr1 hc1
 have H : (if (l0.length : Int) = (l1.length : Int) then (privityref14_Words.l0 k l0 l1 0) else (some false)) = some r := h
 clear h
 by_cases c3 : (l0.length : Int) = (l1.length : Int)
 ·rw [if_pos c3] at H
  have c3b0 : ((l0.length : Int) == (l1.length : Int)) = true := beq_iff_eq.mpr c3
  have c3b1 : ((l0.length : Int) != (l1.length : Int)) = false := bne_eq_false_iff_eq.mpr c3
  have c3b2 : (l0.length == l1.length) = true := by first|simpa using c3|(simp at c3 ⊢;omega)
  clear c3
  have H' := Aside0.mk H
  clear H
  go_enter Try.func18,Try.ntmps18
  go_wp2
  repeat (go_quiet (fail);try go_wp2)
  go_loopg [5] k (fun kq v5 w' => ∃ (x5_1 : Int),v5 = .int .i64 x5_1 ∧ Aside0 (privityref14_Words.l0 kq l0 l1 x5_1 = some r) ∧ Aside0 (kq ≤ k) ∧ Drawn0 w w')
  case atStart => exact ⟨(0),(by first|rfl|(simp;done)|(simp [*];done)),H',⟨Nat.le_refl _⟩,by repeat (first|exact Drawn0.refl _|apply Drawn0.step)⟩
  case round =>
   clear H'
   try clear c1
   try clear p2
   try clear c3
   try clear c3b0
   try clear c3b1
   try clear c3b2
   obtain ⟨x5_1,rfl,HA,HK1,⟨m1,rfl⟩⟩ := hrel
   cases gk with
   | zero => exact absurd HA.out (by simp [privityref14_Words.l0])
   | succ k1 =>
    have H := HA.out
    clear HA
    simp only [privityref14_Words.l0] at H
    by_cases c4 : x5_1 < (l0.length : Int)
    ·rw [if_pos c4] at H
     have c4b0 : decide (x5_1 < (l0.length : Int)) = true := decide_eq_true c4
     clear c4
     by_cases c5 : 0 ≤ x5_1
     ·rw [if_pos c5] at H
      have c5b0 : decide (0 ≤ x5_1) = true := decide_eq_true c5
      clear c5
      by_cases c6 : x5_1 < (l1.length : Int)
      ·rw [if_pos c6] at H
       have c6b0 : decide (x5_1 < (l1.length : Int)) = true := decide_eq_true c6
       clear c6
       by_cases c7 : (rd l0 x5_1) = (rd l1 x5_1)
       ·rw [if_pos c7] at H
        have c7b0 : ((rd l0 x5_1) == (rd l1 x5_1)) = true := beq_iff_eq.mpr c7
        have c7b1 : ((rd l0 x5_1) != (rd l1 x5_1)) = false := bne_eq_false_iff_eq.mpr c7
        clear c7
        have H' := Aside0.mk H
        clear H
        have p259 : 0 ≤ (x5_1 : Int) := of_decide_eq_true (by first|(with_reducible assumption)|assumption)
        have q259 : x5_1 < (l0.length : Int) := of_decide_eq_true (by first|(with_reducible assumption)|assumption)
        obtain ⟨ad259,e259,hx259_0⟩ := Kd.at_int HR0.out x5_1 p259 q259
        cases e259
        replace p259 := eq_true p259
        replace q259 := eq_true q259
        have p260 : 0 ≤ (x5_1 : Int) := of_decide_eq_true (by first|(with_reducible assumption)|assumption)
        have q260 : x5_1 < (l1.length : Int) := of_decide_eq_true (by first|(with_reducible assumption)|assumption)
        obtain ⟨ad260,e260,hx260_0⟩ := Kd.at_int HR1.out x5_1 p260 q260
        cases e260
        replace p260 := eq_true p260
        replace q260 := eq_true q260
        go_wp2
        repeat (go_quiet (fail);try go_wp2)
        go_roundg k1
        case measure => have := HK1.out;omega
        case rel => exact ⟨(wrap64 (x5_1 + 1)),(by first|rfl|(simp;done)|(simp [*];done)),H',⟨by have := HK1.out;omega⟩,by repeat (first|exact Drawn0.refl _|apply Drawn0.step)⟩
       ·rw [if_neg c7] at H
        have c7b0 : ((rd l0 x5_1) == (rd l1 x5_1)) = false := beq_eq_false_iff_ne.mpr c7
        have c7b1 : ((rd l0 x5_1) != (rd l1 x5_1)) = true := bne_iff_ne.mpr c7
        obtain rfl := Option.some.inj H
        have p259 : 0 ≤ (x5_1 : Int) := of_decide_eq_true (by first|(with_reducible assumption)|assumption)
        have q259 : x5_1 < (l0.length : Int) := of_decide_eq_true (by first|(with_reducible assumption)|assumption)
        obtain ⟨ad259,e259,hx259_0⟩ := Kd.at_int HR0.out x5_1 p259 q259
        cases e259
        replace p259 := eq_true p259
        replace q259 := eq_true q259
        have p260 : 0 ≤ (x5_1 : Int) := of_decide_eq_true (by first|(with_reducible assumption)|assumption)
        have q260 : x5_1 < (l1.length : Int) := of_decide_eq_true (by first|(with_reducible assumption)|assumption)
        obtain ⟨ad260,e260,hx260_0⟩ := Kd.at_int HR1.out x5_1 p260 q260
        cases e260
        replace p260 := eq_true p260
        replace q260 := eq_true q260
        go_wp2
        repeat (go_quiet (fail);try go_wp2)
        go_ret
        exact ⟨by first|rfl|(simp;done)|(simp [*];done),by repeat (first|exact Drawn0.refl _|apply Drawn0.step)⟩
      ·rw [if_neg c6] at H
       exact absurd H (by simp)
     ·rw [if_neg c5] at H
      exact absurd H (by simp)
    ·rw [if_neg c4] at H
     have c4b0 : decide (x5_1 < (l0.length : Int)) = false := decide_eq_false c4
     clear c4
     obtain rfl := Option.some.inj H
     go_wp2
     repeat (go_quiet (fail);try go_wp2)
     go_ret
     exact ⟨by first|rfl|(simp;done)|(simp [*];done),by repeat (first|exact Drawn0.refl _|apply Drawn0.step)⟩
 ·rw [if_neg c3] at H
  have c3b0 : ((l0.length : Int) == (l1.length : Int)) = false := beq_eq_false_iff_ne.mpr c3
  have c3b1 : ((l0.length : Int) != (l1.length : Int)) = true := bne_iff_ne.mpr c3
  have c3b2 : (l0.length == l1.length) = false := by first|simpa using c3|(simp at c3 ⊢;omega)
  obtain rfl := Option.some.inj H
  go_enter Try.func18,Try.ntmps18
  go_wp2
  repeat (go_quiet (fail);try go_wp2)
  go_ret
  exact ⟨by first|rfl|(simp;done)|(simp [*];done),by repeat (first|exact Drawn0.refl _|apply Drawn0.step)⟩
/-! ### privitylaw43_four: function 41 -/
def privitylaw43_four.f  : Option (Int × Int × Int) := some (31, 4, 1)
set_option maxHeartbeats 8000000 in
set_option maxRecDepth 100000 in
theorem privitylaw43_four.calls  (r1 : Int) (r2 : Int) (r3 : Int) (w : World) (h : privitylaw43_four.f  = some (r1, r2, r3)) :
  Calls Try.prog 41 #[] w fun e w' => e = .returned (.agg #[.int .u64 r1,.int .i64 r2,.int .i64 r3]) ∧ Below w.heap.size w w' := by
 have hu24 := Try.underlying24
 have HB := Aside0.mk (Below.refl w.heap.size w)
 have H : (some (31,4,1)) = some (r1,r2,r3) := h
 clear h
 simp only [Option.some.injEq,Prod.mk.injEq] at H
 obtain ⟨rfl,rfl,rfl⟩ := H
 go_enter Try.func41,Try.ntmps41
 go_wp2_with (first|((with_reducible refine gate_dst (N := 0) rfl ?_);refine box_event ?hg (N := 0) ?hd (cs := #[.int .u64 0,.int .i64 0,.int .i64 0]) (t := 24) ?hr ?_;(case hd => rfl);(case hg => rfl);(case hr => first|(go_simp;done)|(go_simp;rfl));intro gb261 hg w1 hbox hb;have n0_ := Aside0.mk (below_step (by repeat (first|(with_reducible first|exact HB.out|apply below_alloc|apply pw_below_drewN|apply below_drew1)|exact HB.out)) hb);have n1_ := Aside0.mk (hbox);have n2_ := Aside0.mk ((by rw [hg];exact (below_size (by repeat (first|(with_reducible first|exact HB.out|apply below_alloc|apply pw_below_drewN|apply below_drew1)|exact HB.out))) : w.heap.size ≤ gb261));have n3_ := Aside0.mk ((by rw [hg];exact (below_size (by repeat (first|(with_reducible first|exact HB.out|apply below_alloc|apply pw_below_drewN|apply below_drew1)|exact HB.out))) : w.heap.size ≤ gb261));clear HB;have HB := n0_;have BK261 := n1_;have GW261 := n2_;have GE261 := n3_;clear n0_ n1_ n2_ n3_;clear hb hbox hg;have hcz2_0 : w1.cell? ⟨gb261,0,none⟩ = some (.int .u64 0) := (blk_cell BK261.out 0).trans rfl;have hcz2_1 : w1.cell? ⟨gb261,1,none⟩ = some (.int .i64 0) := (blk_cell BK261.out 1).trans rfl;have hcz2_2 : w1.cell? ⟨gb261,2,none⟩ = some (.int .i64 0) := (blk_cell BK261.out 2).trans rfl;have hfz2_0 := blk_frozen BK261.out 0;have hfz2_1 := blk_frozen BK261.out 1;have hfz2_2 := blk_frozen BK261.out 2))
 refine bodyPost_ret (results_cell_row rfl _ _ gb261 24 #[.int .u64 31,.int .i64 4,.int .i64 1] (0,0) _ rfl (by (with_reducible repeat (first|refine blk_drewN ?_ _|refine blk_drew ?_|refine blk_alloc ?_ _));refine blk_put (cs := #[.int .u64 31,.int .i64 4,.int .i64 0]) ?_ 2 _ rfl;(with_reducible repeat (first|refine blk_drewN ?_ _|refine blk_drew ?_|refine blk_alloc ?_ _));refine blk_put (cs := #[.int .u64 31,.int .i64 0,.int .i64 0]) ?_ 1 _ rfl;(with_reducible repeat (first|refine blk_drewN ?_ _|refine blk_drew ?_|refine blk_alloc ?_ _));refine blk_put (cs := #[.int .u64 0,.int .i64 0,.int .i64 0]) ?_ 0 _ rfl;(with_reducible repeat (first|refine blk_drewN ?_ _|refine blk_drew ?_|refine blk_alloc ?_ _));exact BK261.out) Try.underlying24 rfl (by kernel_rfl)) rfl ?_
 exact ⟨by first|rfl|(simp [errW_none,errW_some] <;> rfl)|(simp [*,errW_none,errW_some] <;> rfl),by repeat (first|(with_reducible first|exact HB.out|apply below_alloc|apply pw_below_drewN|apply below_drew1|refine below_set ?_ GE261.out)|exact HB.out)⟩
end Go.Proofs.Ytejeelpnmdfibaa.Pr
end
section
/- Printed by a program of this seat (the kit's printer, with the functions that were proved by hand given to it). What stands here: the functions that the statements reach, as plain functions, and that the Go code computes them. -/
namespace Go.Proofs.Ytejeelpnmdfibaa.Pr
open Go.RowKit Go.Proofs.YtejeelpnmdfibaaW.PrintWords Go.Proofs.YtejeelpnmdfibaaW.PrintLast Go.Proofs.YtejeelpnmdfibaaW.PrintMore
attribute [local go_sem] max2_int min2_int max_two min_two max_three min_three max_four min_four   -- for this text's walks alone
set_option linter.unusedVariables false
set_option linter.unusedSimpArgs false

open Go.Proofs.Ytejeelpnmdfibaa.Hw
/-! ### privitylaw43_awake: function 13 -/
def privitylaw43_awake.f (k : Nat)  : Option (Bool) := (privitylaw43_four.f).bind fun bt262 => ((tapeshift_Sharing.f k bt262.1 bt262.2.1 bt262.2.2 (([3] : List Int)) 2 (([5, 2] : List Int)) (([3] : List Int))).bind fun bt274 => ((privitylaw43_four.f).bind fun bt280 => ((tapeshift_Sharing.f k bt280.1 bt280.2.1 bt280.2.2 (([3] : List Int)) 29 (([7, 22] : List Int)) (([17] : List Int))).bind fun bt292 => ((privityref14_Words.f k bt274.1 (([7, 22] : List Int))).bind fun t301 => (if t301 = true then ((privityref14_Words.f k bt274.2 (([17] : List Int))).bind fun t305 => (if t305 = true then ((privityref14_Words.f k bt292.1 (([5, 2] : List Int))).bind fun t309 => (if t309 = true then ((privityref14_Words.f k bt292.2 (([3] : List Int))).bind fun t313 => (some t313)) else (some false))) else (some false))) else (some false))))))
theorem privitylaw43_awake.mono : ∀ k, LeO (privitylaw43_awake.f k ) (privitylaw43_awake.f (k + 1) ) := by
 intro  k
 unfold privitylaw43_awake.f
 repeat' first
   | (with_reducible exact privityref14_Words.mono _ _ _)
   | (with_reducible exact tapeshift_Sharing.mono _ _ _ _ _ _ _ _)
   | (with_reducible exact LeO.refl _)
   | (with_reducible exact LeO.none _)
   | (with_reducible refine LeO.ite ?_ ?_)
   | (with_reducible refine LeO.bind ?_ (fun _ => ?_))
   | exact privityref14_Words.mono _ _ _
   | exact tapeshift_Sharing.mono _ _ _ _ _ _ _ _
   | exact LeO.none _
   | refine LeO.ite ?_ ?_
   | refine LeO.bind ?_ (fun _ => ?_)
theorem privitylaw43_awake.more (k : Nat) : ∀ d, LeO (privitylaw43_awake.f k) (privitylaw43_awake.f (k + d))
 | 0 => fun r h => h
 | d + 1 => fun r h => privitylaw43_awake.mono (k + d) r (privitylaw43_awake.more k d r h)
theorem privitylaw43_awake.is : privitylaw43_awake.f 60 = some true := by kernel_rfl
theorem privitylaw43_awake.one (k : Nat) (r : Bool) (h : privitylaw43_awake.f k = some r) : r = true := by
 have h1 := privitylaw43_awake.more k 60 r h
 have h2 := privitylaw43_awake.more 60 k true privitylaw43_awake.is
 rw [Nat.add_comm,h1] at h2
 exact Option.some.inj h2
set_option maxHeartbeats 8000000 in
set_option maxRecDepth 100000 in
theorem privitylaw43_awake.calls (k : Nat)  (r : Bool) (w : World) (h : privitylaw43_awake.f k  = some r) :
  Calls Try.prog 13 #[] w fun e w' => e = .returned (.bool r) ∧ Below w.heap.size w w' := by
 have HR1 := Aside0.mk (privitylaw43_awake.one k r h)
 have HB := Aside0.mk (Below.refl w.heap.size w)
 have H : ((privitylaw43_four.f).bind fun bt262 => ((tapeshift_Sharing.f k bt262.1 bt262.2.1 bt262.2.2 (([3] : List Int)) 2 (([5,2] : List Int)) (([3] : List Int))).bind fun bt274 => ((privitylaw43_four.f).bind fun bt280 => ((tapeshift_Sharing.f k bt280.1 bt280.2.1 bt280.2.2 (([3] : List Int)) 29 (([7,22] : List Int)) (([17] : List Int))).bind fun bt292 => ((privityref14_Words.f k bt274.1 (([7,22] : List Int))).bind fun t301 => (if t301 = true then ((privityref14_Words.f k bt274.2 (([17] : List Int))).bind fun t305 => (if t305 = true then ((privityref14_Words.f k bt292.1 (([5,2] : List Int))).bind fun t309 => (if t309 = true then ((privityref14_Words.f k bt292.2 (([3] : List Int))).bind fun t313 => (some t313)) else (some false))) else (some false))) else (some false))))))) = some r := h
 clear h
 replace H := Option.bind_eq_some_iff.mp H
 obtain ⟨⟨t262,t263,t264⟩,A10,H⟩ := H
 replace H : ((tapeshift_Sharing.f k t262 t263 t264 (([3] : List Int)) 2 (([5,2] : List Int)) (([3] : List Int))).bind fun bt274 => ((privitylaw43_four.f).bind fun bt280 => ((tapeshift_Sharing.f k bt280.1 bt280.2.1 bt280.2.2 (([3] : List Int)) 29 (([7,22] : List Int)) (([17] : List Int))).bind fun bt292 => ((privityref14_Words.f k bt274.1 (([7,22] : List Int))).bind fun t301 => (if t301 = true then ((privityref14_Words.f k bt274.2 (([17] : List Int))).bind fun t305 => (if t305 = true then ((privityref14_Words.f k bt292.1 (([5,2] : List Int))).bind fun t309 => (if t309 = true then ((privityref14_Words.f k bt292.2 (([3] : List Int))).bind fun t313 => (some t313)) else (some false))) else (some false))) else (some false)))))) = some r := H
 have A1 := Aside0.mk A10
 clear A10
 obtain ⟨y265,hy265⟩ : ∃ y_ : List Int,y_ = (([3] : List Int)) := ⟨_,rfl⟩
 replace H : ((tapeshift_Sharing.f k t262 t263 t264 y265 2 (([5,2] : List Int)) (([3] : List Int))).bind fun bt274 => ((privitylaw43_four.f).bind fun bt280 => ((tapeshift_Sharing.f k bt280.1 bt280.2.1 bt280.2.2 (([3] : List Int)) 29 (([7,22] : List Int)) (([17] : List Int))).bind fun bt292 => ((privityref14_Words.f k bt274.1 (([7,22] : List Int))).bind fun t301 => (if t301 = true then ((privityref14_Words.f k bt274.2 (([17] : List Int))).bind fun t305 => (if t305 = true then ((privityref14_Words.f k bt292.1 (([5,2] : List Int))).bind fun t309 => (if t309 = true then ((privityref14_Words.f k bt292.2 (([3] : List Int))).bind fun t313 => (some t313)) else (some false))) else (some false))) else (some false)))))) = some r := by first|(rw [hy265];with_reducible exact H)|(have H2_ := (Option.bind_some _ _).symm.trans H;rw [hy265];with_reducible exact H2_)|(have H2_ := (Option.bind_some _ _).symm.trans H;with_reducible exact H2_)|with_reducible exact H|(rw [hy265];exact H)|exact H
 have Ny265 := Aside0.mk hy265
 clear hy265
 obtain ⟨y268,hy268⟩ : ∃ y_ : List Int,y_ = (([5,2] : List Int)) := ⟨_,rfl⟩
 replace H : ((tapeshift_Sharing.f k t262 t263 t264 y265 2 y268 (([3] : List Int))).bind fun bt274 => ((privitylaw43_four.f).bind fun bt280 => ((tapeshift_Sharing.f k bt280.1 bt280.2.1 bt280.2.2 (([3] : List Int)) 29 (([7,22] : List Int)) (([17] : List Int))).bind fun bt292 => ((privityref14_Words.f k bt274.1 (([7,22] : List Int))).bind fun t301 => (if t301 = true then ((privityref14_Words.f k bt274.2 (([17] : List Int))).bind fun t305 => (if t305 = true then ((privityref14_Words.f k bt292.1 (([5,2] : List Int))).bind fun t309 => (if t309 = true then ((privityref14_Words.f k bt292.2 (([3] : List Int))).bind fun t313 => (some t313)) else (some false))) else (some false))) else (some false)))))) = some r := by first|(rw [hy268];with_reducible exact H)|(have H2_ := (Option.bind_some _ _).symm.trans H;rw [hy268];with_reducible exact H2_)|(have H2_ := (Option.bind_some _ _).symm.trans H;with_reducible exact H2_)|with_reducible exact H|(rw [hy268];exact H)|exact H
 have Ny268 := Aside0.mk hy268
 clear hy268
 obtain ⟨y271,hy271⟩ : ∃ y_ : List Int,y_ = (([3] : List Int)) := ⟨_,rfl⟩
 replace H : ((tapeshift_Sharing.f k t262 t263 t264 y265 2 y268 y271).bind fun bt274 => ((privitylaw43_four.f).bind fun bt280 => ((tapeshift_Sharing.f k bt280.1 bt280.2.1 bt280.2.2 (([3] : List Int)) 29 (([7,22] : List Int)) (([17] : List Int))).bind fun bt292 => ((privityref14_Words.f k bt274.1 (([7,22] : List Int))).bind fun t301 => (if t301 = true then ((privityref14_Words.f k bt274.2 (([17] : List Int))).bind fun t305 => (if t305 = true then ((privityref14_Words.f k bt292.1 (([5,2] : List Int))).bind fun t309 => (if t309 = true then ((privityref14_Words.f k bt292.2 (([3] : List Int))).bind fun t313 => (some t313)) else (some false))) else (some false))) else (some false)))))) = some r := by first|(rw [hy271];with_reducible exact H)|(have H2_ := (Option.bind_some _ _).symm.trans H;rw [hy271];with_reducible exact H2_)|(have H2_ := (Option.bind_some _ _).symm.trans H;with_reducible exact H2_)|with_reducible exact H|(rw [hy271];exact H)|exact H
 have Ny271 := Aside0.mk hy271
 clear hy271
 replace H := Option.bind_eq_some_iff.mp H
 obtain ⟨⟨t274,t277⟩,A20,H⟩ := H
 replace H : ((privitylaw43_four.f).bind fun bt280 => ((tapeshift_Sharing.f k bt280.1 bt280.2.1 bt280.2.2 (([3] : List Int)) 29 (([7,22] : List Int)) (([17] : List Int))).bind fun bt292 => ((privityref14_Words.f k t274 (([7,22] : List Int))).bind fun t301 => (if t301 = true then ((privityref14_Words.f k t277 (([17] : List Int))).bind fun t305 => (if t305 = true then ((privityref14_Words.f k bt292.1 (([5,2] : List Int))).bind fun t309 => (if t309 = true then ((privityref14_Words.f k bt292.2 (([3] : List Int))).bind fun t313 => (some t313)) else (some false))) else (some false))) else (some false))))) = some r := H
 have A2 := Aside0.mk A20
 clear A20
 replace H := Option.bind_eq_some_iff.mp H
 obtain ⟨⟨t280,t281,t282⟩,A30,H⟩ := H
 replace H : ((tapeshift_Sharing.f k t280 t281 t282 (([3] : List Int)) 29 (([7,22] : List Int)) (([17] : List Int))).bind fun bt292 => ((privityref14_Words.f k t274 (([7,22] : List Int))).bind fun t301 => (if t301 = true then ((privityref14_Words.f k t277 (([17] : List Int))).bind fun t305 => (if t305 = true then ((privityref14_Words.f k bt292.1 (([5,2] : List Int))).bind fun t309 => (if t309 = true then ((privityref14_Words.f k bt292.2 (([3] : List Int))).bind fun t313 => (some t313)) else (some false))) else (some false))) else (some false)))) = some r := H
 have A3 := Aside0.mk A30
 clear A30
 obtain ⟨y283,hy283⟩ : ∃ y_ : List Int,y_ = (([3] : List Int)) := ⟨_,rfl⟩
 replace H : ((tapeshift_Sharing.f k t280 t281 t282 y283 29 (([7,22] : List Int)) (([17] : List Int))).bind fun bt292 => ((privityref14_Words.f k t274 (([7,22] : List Int))).bind fun t301 => (if t301 = true then ((privityref14_Words.f k t277 (([17] : List Int))).bind fun t305 => (if t305 = true then ((privityref14_Words.f k bt292.1 (([5,2] : List Int))).bind fun t309 => (if t309 = true then ((privityref14_Words.f k bt292.2 (([3] : List Int))).bind fun t313 => (some t313)) else (some false))) else (some false))) else (some false)))) = some r := by first|(rw [hy283];with_reducible exact H)|(have H2_ := (Option.bind_some _ _).symm.trans H;rw [hy283];with_reducible exact H2_)|(have H2_ := (Option.bind_some _ _).symm.trans H;with_reducible exact H2_)|with_reducible exact H|(rw [hy283];exact H)|exact H
 have Ny283 := Aside0.mk hy283
 clear hy283
 obtain ⟨y286,hy286⟩ : ∃ y_ : List Int,y_ = (([7,22] : List Int)) := ⟨_,rfl⟩
 replace H : ((tapeshift_Sharing.f k t280 t281 t282 y283 29 y286 (([17] : List Int))).bind fun bt292 => ((privityref14_Words.f k t274 (([7,22] : List Int))).bind fun t301 => (if t301 = true then ((privityref14_Words.f k t277 (([17] : List Int))).bind fun t305 => (if t305 = true then ((privityref14_Words.f k bt292.1 (([5,2] : List Int))).bind fun t309 => (if t309 = true then ((privityref14_Words.f k bt292.2 (([3] : List Int))).bind fun t313 => (some t313)) else (some false))) else (some false))) else (some false)))) = some r := by first|(rw [hy286];with_reducible exact H)|(have H2_ := (Option.bind_some _ _).symm.trans H;rw [hy286];with_reducible exact H2_)|(have H2_ := (Option.bind_some _ _).symm.trans H;with_reducible exact H2_)|with_reducible exact H|(rw [hy286];exact H)|exact H
 have Ny286 := Aside0.mk hy286
 clear hy286
 obtain ⟨y289,hy289⟩ : ∃ y_ : List Int,y_ = (([17] : List Int)) := ⟨_,rfl⟩
 replace H : ((tapeshift_Sharing.f k t280 t281 t282 y283 29 y286 y289).bind fun bt292 => ((privityref14_Words.f k t274 (([7,22] : List Int))).bind fun t301 => (if t301 = true then ((privityref14_Words.f k t277 (([17] : List Int))).bind fun t305 => (if t305 = true then ((privityref14_Words.f k bt292.1 (([5,2] : List Int))).bind fun t309 => (if t309 = true then ((privityref14_Words.f k bt292.2 (([3] : List Int))).bind fun t313 => (some t313)) else (some false))) else (some false))) else (some false)))) = some r := by first|(rw [hy289];with_reducible exact H)|(have H2_ := (Option.bind_some _ _).symm.trans H;rw [hy289];with_reducible exact H2_)|(have H2_ := (Option.bind_some _ _).symm.trans H;with_reducible exact H2_)|with_reducible exact H|(rw [hy289];exact H)|exact H
 have Ny289 := Aside0.mk hy289
 clear hy289
 replace H := Option.bind_eq_some_iff.mp H
 obtain ⟨⟨t292,t295⟩,A40,H⟩ := H
 replace H : ((privityref14_Words.f k t274 (([7,22] : List Int))).bind fun t301 => (if t301 = true then ((privityref14_Words.f k t277 (([17] : List Int))).bind fun t305 => (if t305 = true then ((privityref14_Words.f k t292 (([5,2] : List Int))).bind fun t309 => (if t309 = true then ((privityref14_Words.f k t295 (([3] : List Int))).bind fun t313 => (some t313)) else (some false))) else (some false))) else (some false))) = some r := H
 have A4 := Aside0.mk A40
 clear A40
 obtain ⟨y298,hy298⟩ : ∃ y_ : List Int,y_ = (([7,22] : List Int)) := ⟨_,rfl⟩
 replace H : ((privityref14_Words.f k t274 y298).bind fun t301 => (if t301 = true then ((privityref14_Words.f k t277 (([17] : List Int))).bind fun t305 => (if t305 = true then ((privityref14_Words.f k t292 (([5,2] : List Int))).bind fun t309 => (if t309 = true then ((privityref14_Words.f k t295 (([3] : List Int))).bind fun t313 => (some t313)) else (some false))) else (some false))) else (some false))) = some r := by first|(rw [hy298];with_reducible exact H)|(have H2_ := (Option.bind_some _ _).symm.trans H;rw [hy298];with_reducible exact H2_)|(have H2_ := (Option.bind_some _ _).symm.trans H;with_reducible exact H2_)|with_reducible exact H|(rw [hy298];exact H)|exact H
 have Ny298 := Aside0.mk hy298
 clear hy298
 replace H := Option.bind_eq_some_iff.mp H
 obtain ⟨t301,A50,H⟩ := H
 replace H : (if t301 = true then ((privityref14_Words.f k t277 (([17] : List Int))).bind fun t305 => (if t305 = true then ((privityref14_Words.f k t292 (([5,2] : List Int))).bind fun t309 => (if t309 = true then ((privityref14_Words.f k t295 (([3] : List Int))).bind fun t313 => (some t313)) else (some false))) else (some false))) else (some false)) = some r := H
 have A5 := Aside0.mk A50
 clear A50
 by_cases c6 : t301 = true
 ·subst c6
  have H1 : ((privityref14_Words.f k t277 (([17] : List Int))).bind fun t305 => (if t305 = true then ((privityref14_Words.f k t292 (([5,2] : List Int))).bind fun t309 => (if t309 = true then ((privityref14_Words.f k t295 (([3] : List Int))).bind fun t313 => (some t313)) else (some false))) else (some false))) = some r := by rw [if_pos rfl] at H;exact H
  clear H
  have H := H1
  clear H1
  obtain ⟨y302,hy302⟩ : ∃ y_ : List Int,y_ = (([17] : List Int)) := ⟨_,rfl⟩
  replace H : ((privityref14_Words.f k t277 y302).bind fun t305 => (if t305 = true then ((privityref14_Words.f k t292 (([5,2] : List Int))).bind fun t309 => (if t309 = true then ((privityref14_Words.f k t295 (([3] : List Int))).bind fun t313 => (some t313)) else (some false))) else (some false))) = some r := by first|(rw [hy302];with_reducible exact H)|(have H2_ := (Option.bind_some _ _).symm.trans H;rw [hy302];with_reducible exact H2_)|(have H2_ := (Option.bind_some _ _).symm.trans H;with_reducible exact H2_)|with_reducible exact H|(rw [hy302];exact H)|exact H
  have Ny302 := Aside0.mk hy302
  clear hy302
  replace H := Option.bind_eq_some_iff.mp H
  obtain ⟨t305,A70,H⟩ := H
  replace H : (if t305 = true then ((privityref14_Words.f k t292 (([5,2] : List Int))).bind fun t309 => (if t309 = true then ((privityref14_Words.f k t295 (([3] : List Int))).bind fun t313 => (some t313)) else (some false))) else (some false)) = some r := H
  have A7 := Aside0.mk A70
  clear A70
  by_cases c8 : t305 = true
  ·subst c8
   have H1 : ((privityref14_Words.f k t292 (([5,2] : List Int))).bind fun t309 => (if t309 = true then ((privityref14_Words.f k t295 (([3] : List Int))).bind fun t313 => (some t313)) else (some false))) = some r := by rw [if_pos rfl] at H;exact H
   clear H
   have H := H1
   clear H1
   obtain ⟨y306,hy306⟩ : ∃ y_ : List Int,y_ = (([5,2] : List Int)) := ⟨_,rfl⟩
   replace H : ((privityref14_Words.f k t292 y306).bind fun t309 => (if t309 = true then ((privityref14_Words.f k t295 (([3] : List Int))).bind fun t313 => (some t313)) else (some false))) = some r := by first|(rw [hy306];with_reducible exact H)|(have H2_ := (Option.bind_some _ _).symm.trans H;rw [hy306];with_reducible exact H2_)|(have H2_ := (Option.bind_some _ _).symm.trans H;with_reducible exact H2_)|with_reducible exact H|(rw [hy306];exact H)|exact H
   have Ny306 := Aside0.mk hy306
   clear hy306
   replace H := Option.bind_eq_some_iff.mp H
   obtain ⟨t309,A90,H⟩ := H
   replace H : (if t309 = true then ((privityref14_Words.f k t295 (([3] : List Int))).bind fun t313 => (some t313)) else (some false)) = some r := H
   have A9 := Aside0.mk A90
   clear A90
   by_cases c10 : t309 = true
   ·subst c10
    have H1 : ((privityref14_Words.f k t295 (([3] : List Int))).bind fun t313 => (some t313)) = some r := by rw [if_pos rfl] at H;exact H
    clear H
    have H := H1
    clear H1
    obtain ⟨y310,hy310⟩ : ∃ y_ : List Int,y_ = (([3] : List Int)) := ⟨_,rfl⟩
    replace H : ((privityref14_Words.f k t295 y310).bind fun t313 => (some t313)) = some r := by first|(rw [hy310];with_reducible exact H)|(have H2_ := (Option.bind_some _ _).symm.trans H;rw [hy310];with_reducible exact H2_)|(have H2_ := (Option.bind_some _ _).symm.trans H;with_reducible exact H2_)|with_reducible exact H|(rw [hy310];exact H)|exact H
    have Ny310 := Aside0.mk hy310
    clear hy310
    replace H := Option.bind_eq_some_iff.mp H
    obtain ⟨t313,A110,H⟩ := H
    replace H : (some t313) = some r := H
    have A11 := Aside0.mk A110
    clear A110
    obtain rfl := Option.some.inj H
    go_enter Try.func13,Try.ntmps13
    go_wp2_with (first|((with_reducible refine gate_callee (f := 41) rfl ?_);refine goesL_ (some 6) rfl rfl Try.func41 (by kernel_rfl) rfl #[] rfl (by (try simp only [List.map_toArray,List.map_cons,List.map_nil]);first|done|rfl|(simp only [List.length_drop,List.length_take];rfl)) ?_;(with_reducible refine (privitylaw43_four.calls  t262 t263 t264 _ A1.out).mono ?_);rintro e w12 ⟨rfl,hb⟩;refine ⟨_,rfl,?_⟩;have n0_ := Aside0.mk (below_step (by repeat (first|(with_reducible first|exact HB.out|apply below_alloc|apply pw_below_drewN|apply below_drew1)|exact HB.out)) hb);clear HB;have HB := n0_;clear n0_;(try clear hb);(try clear hb2);(try clear hk);(try clear hi))|((with_reducible refine gate_dst (N := 7) rfl ?_);(try (refine gate_guard (by rfl) ?_;dsimp only));refine Kd.R_lit (Kd.int .i64) _ 3 ?hg (N := 7) ?hd (xs := ([3] : List Int)) (inner := [.int .i64 3]) (ok := fun _ => True) (okp := fun _ => True) ?hr ?hp (fun _ hk => hk) trivial (Below.refl _ _) (Nat.le_refl _) (by simp) ?_;(case hd => rfl);(case hg => rfl);(case hr => first|(go_simp;done)|(go_simp;rfl));(case hp => exact (Reps.one (show Kd.M (Kd.int .i64) _ _ _ 3 [.int .i64 3] from rfl) (Reps.none _ _)));intro v266 w13 ho14 hb hg_ hnew_;clear hg_ hnew_;(first|rw [← Ny265.out] at ho14|(simp only [Int.reduceToNat] at ho14;rw [← Ny265.out] at ho14));have n0_ := Aside0.mk (Kd.R_lower ho14 (below_size (by repeat (first|(with_reducible first|exact HB.out|apply below_alloc|apply pw_below_drewN|apply below_drew1)|exact HB.out))));have n1_ := Aside0.mk (below_step (by repeat (first|(with_reducible first|exact HB.out|apply below_alloc|apply pw_below_drewN|apply below_drew1)|exact HB.out)) hb);clear HB;have HO267 := n0_;have HB := n1_;clear n0_ n1_;clear hb ho14)|((with_reducible refine gate_dst (N := 8) rfl ?_);(try (refine gate_guard (by rfl) ?_;dsimp only));refine Kd.R_lit (Kd.int .u64) _ 22 ?hg (N := 8) ?hd (xs := ([5,2] : List Int)) (inner := [.int .u64 5,.int .u64 2]) (ok := fun _ => True) (okp := fun _ => True) ?hr ?hp (fun _ hk => hk) trivial (Below.refl _ _) (Nat.le_refl _) (by simp) ?_;(case hd => rfl);(case hg => rfl);(case hr => first|(go_simp;done)|(go_simp;rfl));(case hp => exact (Reps.one (show Kd.M (Kd.int .u64) _ _ _ 5 [.int .u64 5] from rfl) (Reps.one (show Kd.M (Kd.int .u64) _ _ _ 2 [.int .u64 2] from rfl) (Reps.none _ _))));intro v269 w15 ho16 hb hg_ hnew_;clear hg_ hnew_;(first|rw [← Ny268.out] at ho16|(simp only [Int.reduceToNat] at ho16;rw [← Ny268.out] at ho16));have n0_ := Aside0.mk (Kd.R_below (by (with_reducible repeat (first|apply Kd.R_alloc|apply Kd.R_drewN|apply Kd.R_drew));exact HO267.out) hb);have n1_ := Aside0.mk (Kd.R_lower ho16 (below_size (by repeat (first|(with_reducible first|exact HB.out|apply below_alloc|apply pw_below_drewN|apply below_drew1)|exact HB.out))));have n2_ := Aside0.mk (below_step (by repeat (first|(with_reducible first|exact HB.out|apply below_alloc|apply pw_below_drewN|apply below_drew1)|exact HB.out)) hb);clear HO267;clear HB;have HO267 := n0_;have HO270 := n1_;have HB := n2_;clear n0_ n1_ n2_;clear hb ho16)|((with_reducible refine gate_dst (N := 9) rfl ?_);(try (refine gate_guard (by rfl) ?_;dsimp only));refine Kd.R_lit (Kd.int .u64) _ 22 ?hg (N := 9) ?hd (xs := ([3] : List Int)) (inner := [.int .u64 3]) (ok := fun _ => True) (okp := fun _ => True) ?hr ?hp (fun _ hk => hk) trivial (Below.refl _ _) (Nat.le_refl _) (by simp) ?_;(case hd => rfl);(case hg => rfl);(case hr => first|(go_simp;done)|(go_simp;rfl));(case hp => exact (Reps.one (show Kd.M (Kd.int .u64) _ _ _ 3 [.int .u64 3] from rfl) (Reps.none _ _)));intro v272 w17 ho18 hb hg_ hnew_;clear hg_ hnew_;(first|rw [← Ny271.out] at ho18|(simp only [Int.reduceToNat] at ho18;rw [← Ny271.out] at ho18));have n0_ := Aside0.mk (Kd.R_below (by (with_reducible repeat (first|apply Kd.R_alloc|apply Kd.R_drewN|apply Kd.R_drew));exact HO267.out) hb);have n1_ := Aside0.mk (Kd.R_elder' (by (with_reducible repeat (first|apply Kd.R_alloc|apply Kd.R_drewN|apply Kd.R_drew));exact HO270.out) (Kd.R_base ho18) hb);have n2_ := Aside0.mk (Kd.R_lower (Kd.R_new' ho18 (Kd.R_lt (by (with_reducible repeat (first|apply Kd.R_alloc|apply Kd.R_drewN|apply Kd.R_drew));exact HO270.out))) (below_size (by repeat (first|(with_reducible first|exact HB.out|apply below_alloc|apply pw_below_drewN|apply below_drew1)|exact HB.out))));have n3_ := Aside0.mk (below_step (by repeat (first|(with_reducible first|exact HB.out|apply below_alloc|apply pw_below_drewN|apply below_drew1)|exact HB.out)) hb);clear HO267;clear HO270;clear HB;have HO267 := n0_;have HO270 := n1_;have HO273 := n2_;have HB := n3_;clear n0_ n1_ n2_ n3_;clear hb ho18;obtain ⟨Ao19,co19,eo19⟩ := Kd.R_slice HO267.out;subst eo19;obtain ⟨Ao20,co20,eo20⟩ := Kd.R_slice HO270.out;subst eo20;obtain ⟨Ao21,co21,eo21⟩ := Kd.R_slice HO273.out;subst eo21)|((with_reducible refine gate_callee (f := 15) rfl ?_);refine goesL_ (some 10) rfl rfl Try.func15 (by kernel_rfl) rfl #[.agg #[.int .u64 t262,.int .i64 t263,.int .i64 t264],.slice Ao19 y265.length co19,.int .u64 2,.slice Ao20 y268.length co20,.slice Ao21 y271.length co21] rfl (by (try simp only [List.map_toArray,List.map_cons,List.map_nil]);first|done|rfl|(simp only [List.length_drop,List.length_take];rfl)) ?_;(with_reducible refine (tapeshift_Sharing.calls k t262 t263 t264 _ _ y265 2 _ _ y268 _ _ y271 t274 t277 _ ?side1 ?side2 ?side3 ?side4 ?side5 ?side6 A2.out).mono ?_);(case side1 => repeat (first|exact (Kd.R_reads' HO267.out).2.2|(with_reducible refine Kd.C_alloc ?_ _)|(with_reducible refine Kd.C_drewN ?_ _)|(with_reducible refine Kd.C_drew ?_)));(case side2 => exact (Kd.R_reads' HO267.out).2.1);(case side3 => repeat (first|exact (Kd.R_reads' HO270.out).2.2|(with_reducible refine Kd.C_alloc ?_ _)|(with_reducible refine Kd.C_drewN ?_ _)|(with_reducible refine Kd.C_drew ?_)));(case side4 => exact (Kd.R_reads' HO270.out).2.1);(case side5 => repeat (first|exact (Kd.R_reads' HO273.out).2.2|(with_reducible refine Kd.C_alloc ?_ _)|(with_reducible refine Kd.C_drewN ?_ _)|(with_reducible refine Kd.C_drew ?_)));(case side6 => exact (Kd.R_reads' HO273.out).2.1);rintro e w22 ⟨v275,v278,rfl,ho0,ho1,hb⟩;refine ⟨_,rfl,?_⟩;have n0_ := Aside0.mk (Kd.R_below (by (with_reducible repeat (first|apply Kd.R_alloc|apply Kd.R_drewN|apply Kd.R_drew));exact HO267.out) hb);have n1_ := Aside0.mk (Kd.R_mono (Kd.R_told (Kd.R_told (Kd.R_old (by (with_reducible repeat (first|apply Kd.R_alloc|apply Kd.R_drewN|apply Kd.R_drew));exact HO270.out) hb) (Kd.R_base ho0)) (Kd.R_base ho1)) (fun _ h_ => h_.1));have n2_ := Aside0.mk (Kd.R_mono (Kd.R_told (Kd.R_told (Kd.R_old (by (with_reducible repeat (first|apply Kd.R_alloc|apply Kd.R_drewN|apply Kd.R_drew));exact HO273.out) hb) (Kd.R_base ho0)) (Kd.R_base ho1)) (fun _ h_ => h_.1));have n3_ := Aside0.mk (Kd.R_lower (Kd.R_new' (Kd.R_new' ho0 (Kd.R_lt (by (with_reducible repeat (first|apply Kd.R_alloc|apply Kd.R_drewN|apply Kd.R_drew));exact HO270.out))) (Kd.R_lt (by (with_reducible repeat (first|apply Kd.R_alloc|apply Kd.R_drewN|apply Kd.R_drew));exact HO273.out))) (below_size (by repeat (first|(with_reducible first|exact HB.out|apply below_alloc|apply pw_below_drewN|apply below_drew1)|exact HB.out))));have n4_ := Aside0.mk (Kd.R_lower (Kd.R_new' (Kd.R_new' ho1 (Kd.R_lt (by (with_reducible repeat (first|apply Kd.R_alloc|apply Kd.R_drewN|apply Kd.R_drew));exact HO270.out))) (Kd.R_lt (by (with_reducible repeat (first|apply Kd.R_alloc|apply Kd.R_drewN|apply Kd.R_drew));exact HO273.out))) (below_size (by repeat (first|(with_reducible first|exact HB.out|apply below_alloc|apply pw_below_drewN|apply below_drew1)|exact HB.out))));have n5_ := Aside0.mk (below_step (by repeat (first|(with_reducible first|exact HB.out|apply below_alloc|apply pw_below_drewN|apply below_drew1)|exact HB.out)) hb);clear HO267;clear HO270;clear HO273;clear HB;have HO267 := n0_;have HO270 := n1_;have HO273 := n2_;have HO276 := n3_;have HO279 := n4_;have HB := n5_;clear n0_ n1_ n2_ n3_ n4_ n5_;(try clear hb);(try clear hb2);(try clear hk);(try clear hi);(try clear ho0);(try clear ho1))|((with_reducible refine gate_callee (f := 41) rfl ?_);refine goesL_ (some 14) rfl rfl Try.func41 (by kernel_rfl) rfl #[] rfl (by (try simp only [List.map_toArray,List.map_cons,List.map_nil]);first|done|rfl|(simp only [List.length_drop,List.length_take];rfl)) ?_;(with_reducible refine (privitylaw43_four.calls  t280 t281 t282 _ A3.out).mono ?_);rintro e w23 ⟨rfl,hb⟩;refine ⟨_,rfl,?_⟩;have n0_ := Aside0.mk (Kd.R_below (by (with_reducible repeat (first|apply Kd.R_alloc|apply Kd.R_drewN|apply Kd.R_drew));exact HO267.out) hb);have n1_ := Aside0.mk (Kd.R_below (by (with_reducible repeat (first|apply Kd.R_alloc|apply Kd.R_drewN|apply Kd.R_drew));exact HO270.out) hb);have n2_ := Aside0.mk (Kd.R_below (by (with_reducible repeat (first|apply Kd.R_alloc|apply Kd.R_drewN|apply Kd.R_drew));exact HO273.out) hb);have n3_ := Aside0.mk (Kd.R_below (by (with_reducible repeat (first|apply Kd.R_alloc|apply Kd.R_drewN|apply Kd.R_drew));exact HO276.out) hb);have n4_ := Aside0.mk (Kd.R_below (by (with_reducible repeat (first|apply Kd.R_alloc|apply Kd.R_drewN|apply Kd.R_drew));exact HO279.out) hb);have n5_ := Aside0.mk (below_step (by repeat (first|(with_reducible first|exact HB.out|apply below_alloc|apply pw_below_drewN|apply below_drew1)|exact HB.out)) hb);clear HO267;clear HO270;clear HO273;clear HO276;clear HO279;clear HB;have HO267 := n0_;have HO270 := n1_;have HO273 := n2_;have HO276 := n3_;have HO279 := n4_;have HB := n5_;clear n0_ n1_ n2_ n3_ n4_ n5_;(try clear hb);(try clear hb2);(try clear hk);(try clear hi))|((with_reducible refine gate_dst (N := 15) rfl ?_);(try (refine gate_guard (by rfl) ?_;dsimp only));refine Kd.R_lit (Kd.int .i64) _ 3 ?hg (N := 15) ?hd (xs := ([3] : List Int)) (inner := [.int .i64 3]) (ok := fun _ => True) (okp := fun _ => True) ?hr ?hp (fun _ hk => hk) trivial (Below.refl _ _) (Nat.le_refl _) (by simp) ?_;(case hd => rfl);(case hg => rfl);(case hr => first|(go_simp;done)|(go_simp;rfl));(case hp => exact (Reps.one (show Kd.M (Kd.int .i64) _ _ _ 3 [.int .i64 3] from rfl) (Reps.none _ _)));intro v284 w24 ho25 hb hg_ hnew_;clear hg_ hnew_;(first|rw [← Ny283.out] at ho25|(simp only [Int.reduceToNat] at ho25;rw [← Ny283.out] at ho25));have n0_ := Aside0.mk (Kd.R_elder' (by (with_reducible repeat (first|apply Kd.R_alloc|apply Kd.R_drewN|apply Kd.R_drew));exact HO267.out) (Kd.R_base ho25) hb);have n1_ := Aside0.mk (Kd.R_below (by (with_reducible repeat (first|apply Kd.R_alloc|apply Kd.R_drewN|apply Kd.R_drew));exact HO270.out) hb);have n2_ := Aside0.mk (Kd.R_below (by (with_reducible repeat (first|apply Kd.R_alloc|apply Kd.R_drewN|apply Kd.R_drew));exact HO273.out) hb);have n3_ := Aside0.mk (Kd.R_below (by (with_reducible repeat (first|apply Kd.R_alloc|apply Kd.R_drewN|apply Kd.R_drew));exact HO276.out) hb);have n4_ := Aside0.mk (Kd.R_below (by (with_reducible repeat (first|apply Kd.R_alloc|apply Kd.R_drewN|apply Kd.R_drew));exact HO279.out) hb);have n5_ := Aside0.mk (Kd.R_lower (Kd.R_new' ho25 (Kd.R_lt (by (with_reducible repeat (first|apply Kd.R_alloc|apply Kd.R_drewN|apply Kd.R_drew));exact HO267.out))) (below_size (by repeat (first|(with_reducible first|exact HB.out|apply below_alloc|apply pw_below_drewN|apply below_drew1)|exact HB.out))));have n6_ := Aside0.mk (below_step (by repeat (first|(with_reducible first|exact HB.out|apply below_alloc|apply pw_below_drewN|apply below_drew1)|exact HB.out)) hb);clear HO267;clear HO270;clear HO273;clear HO276;clear HO279;clear HB;have HO267 := n0_;have HO270 := n1_;have HO273 := n2_;have HO276 := n3_;have HO279 := n4_;have HO285 := n5_;have HB := n6_;clear n0_ n1_ n2_ n3_ n4_ n5_ n6_;clear hb ho25)|((with_reducible refine gate_dst (N := 16) rfl ?_);(try (refine gate_guard (by rfl) ?_;dsimp only));refine Kd.R_lit (Kd.int .u64) _ 22 ?hg (N := 16) ?hd (xs := ([7,22] : List Int)) (inner := [.int .u64 7,.int .u64 22]) (ok := fun _ => True) (okp := fun _ => True) ?hr ?hp (fun _ hk => hk) trivial (Below.refl _ _) (Nat.le_refl _) (by simp) ?_;(case hd => rfl);(case hg => rfl);(case hr => first|(go_simp;done)|(go_simp;rfl));(case hp => exact (Reps.one (show Kd.M (Kd.int .u64) _ _ _ 7 [.int .u64 7] from rfl) (Reps.one (show Kd.M (Kd.int .u64) _ _ _ 22 [.int .u64 22] from rfl) (Reps.none _ _))));intro v287 w26 ho27 hb hg_ hnew_;clear hg_ hnew_;(first|rw [← Ny286.out] at ho27|(simp only [Int.reduceToNat] at ho27;rw [← Ny286.out] at ho27));have n0_ := Aside0.mk (Kd.R_below (by (with_reducible repeat (first|apply Kd.R_alloc|apply Kd.R_drewN|apply Kd.R_drew));exact HO267.out) hb);have n1_ := Aside0.mk (Kd.R_elder' (by (with_reducible repeat (first|apply Kd.R_alloc|apply Kd.R_drewN|apply Kd.R_drew));exact HO270.out) (Kd.R_base ho27) hb);have n2_ := Aside0.mk (Kd.R_elder' (by (with_reducible repeat (first|apply Kd.R_alloc|apply Kd.R_drewN|apply Kd.R_drew));exact HO273.out) (Kd.R_base ho27) hb);have n3_ := Aside0.mk (Kd.R_elder' (by (with_reducible repeat (first|apply Kd.R_alloc|apply Kd.R_drewN|apply Kd.R_drew));exact HO276.out) (Kd.R_base ho27) hb);have n4_ := Aside0.mk (Kd.R_elder' (by (with_reducible repeat (first|apply Kd.R_alloc|apply Kd.R_drewN|apply Kd.R_drew));exact HO279.out) (Kd.R_base ho27) hb);have n5_ := Aside0.mk (Kd.R_below (by (with_reducible repeat (first|apply Kd.R_alloc|apply Kd.R_drewN|apply Kd.R_drew));exact HO285.out) hb);have n6_ := Aside0.mk (Kd.R_lower (Kd.R_new' (Kd.R_new' (Kd.R_new' (Kd.R_new' ho27 (Kd.R_lt (by (with_reducible repeat (first|apply Kd.R_alloc|apply Kd.R_drewN|apply Kd.R_drew));exact HO270.out))) (Kd.R_lt (by (with_reducible repeat (first|apply Kd.R_alloc|apply Kd.R_drewN|apply Kd.R_drew));exact HO273.out))) (Kd.R_lt (by (with_reducible repeat (first|apply Kd.R_alloc|apply Kd.R_drewN|apply Kd.R_drew));exact HO276.out))) (Kd.R_lt (by (with_reducible repeat (first|apply Kd.R_alloc|apply Kd.R_drewN|apply Kd.R_drew));exact HO279.out))) (below_size (by repeat (first|(with_reducible first|exact HB.out|apply below_alloc|apply pw_below_drewN|apply below_drew1)|exact HB.out))));have n7_ := Aside0.mk (below_step (by repeat (first|(with_reducible first|exact HB.out|apply below_alloc|apply pw_below_drewN|apply below_drew1)|exact HB.out)) hb);clear HO267;clear HO270;clear HO273;clear HO276;clear HO279;clear HO285;clear HB;have HO267 := n0_;have HO270 := n1_;have HO273 := n2_;have HO276 := n3_;have HO279 := n4_;have HO285 := n5_;have HO288 := n6_;have HB := n7_;clear n0_ n1_ n2_ n3_ n4_ n5_ n6_ n7_;clear hb ho27)|((with_reducible refine gate_dst (N := 17) rfl ?_);(try (refine gate_guard (by rfl) ?_;dsimp only));refine Kd.R_lit (Kd.int .u64) _ 22 ?hg (N := 17) ?hd (xs := ([17] : List Int)) (inner := [.int .u64 17]) (ok := fun _ => True) (okp := fun _ => True) ?hr ?hp (fun _ hk => hk) trivial (Below.refl _ _) (Nat.le_refl _) (by simp) ?_;(case hd => rfl);(case hg => rfl);(case hr => first|(go_simp;done)|(go_simp;rfl));(case hp => exact (Reps.one (show Kd.M (Kd.int .u64) _ _ _ 17 [.int .u64 17] from rfl) (Reps.none _ _)));intro v290 w28 ho29 hb hg_ hnew_;clear hg_ hnew_;(first|rw [← Ny289.out] at ho29|(simp only [Int.reduceToNat] at ho29;rw [← Ny289.out] at ho29));have n0_ := Aside0.mk (Kd.R_below (by (with_reducible repeat (first|apply Kd.R_alloc|apply Kd.R_drewN|apply Kd.R_drew));exact HO267.out) hb);have n1_ := Aside0.mk (Kd.R_elder' (by (with_reducible repeat (first|apply Kd.R_alloc|apply Kd.R_drewN|apply Kd.R_drew));exact HO270.out) (Kd.R_base ho29) hb);have n2_ := Aside0.mk (Kd.R_elder' (by (with_reducible repeat (first|apply Kd.R_alloc|apply Kd.R_drewN|apply Kd.R_drew));exact HO273.out) (Kd.R_base ho29) hb);have n3_ := Aside0.mk (Kd.R_elder' (by (with_reducible repeat (first|apply Kd.R_alloc|apply Kd.R_drewN|apply Kd.R_drew));exact HO276.out) (Kd.R_base ho29) hb);have n4_ := Aside0.mk (Kd.R_elder' (by (with_reducible repeat (first|apply Kd.R_alloc|apply Kd.R_drewN|apply Kd.R_drew));exact HO279.out) (Kd.R_base ho29) hb);have n5_ := Aside0.mk (Kd.R_below (by (with_reducible repeat (first|apply Kd.R_alloc|apply Kd.R_drewN|apply Kd.R_drew));exact HO285.out) hb);have n6_ := Aside0.mk (Kd.R_elder' (by (with_reducible repeat (first|apply Kd.R_alloc|apply Kd.R_drewN|apply Kd.R_drew));exact HO288.out) (Kd.R_base ho29) hb);have n7_ := Aside0.mk (Kd.R_lower (Kd.R_new' (Kd.R_new' (Kd.R_new' (Kd.R_new' (Kd.R_new' ho29 (Kd.R_lt (by (with_reducible repeat (first|apply Kd.R_alloc|apply Kd.R_drewN|apply Kd.R_drew));exact HO270.out))) (Kd.R_lt (by (with_reducible repeat (first|apply Kd.R_alloc|apply Kd.R_drewN|apply Kd.R_drew));exact HO273.out))) (Kd.R_lt (by (with_reducible repeat (first|apply Kd.R_alloc|apply Kd.R_drewN|apply Kd.R_drew));exact HO276.out))) (Kd.R_lt (by (with_reducible repeat (first|apply Kd.R_alloc|apply Kd.R_drewN|apply Kd.R_drew));exact HO279.out))) (Kd.R_lt (by (with_reducible repeat (first|apply Kd.R_alloc|apply Kd.R_drewN|apply Kd.R_drew));exact HO288.out))) (below_size (by repeat (first|(with_reducible first|exact HB.out|apply below_alloc|apply pw_below_drewN|apply below_drew1)|exact HB.out))));have n8_ := Aside0.mk (below_step (by repeat (first|(with_reducible first|exact HB.out|apply below_alloc|apply pw_below_drewN|apply below_drew1)|exact HB.out)) hb);clear HO267;clear HO270;clear HO273;clear HO276;clear HO279;clear HO285;clear HO288;clear HB;have HO267 := n0_;have HO270 := n1_;have HO273 := n2_;have HO276 := n3_;have HO279 := n4_;have HO285 := n5_;have HO288 := n6_;have HO291 := n7_;have HB := n8_;clear n0_ n1_ n2_ n3_ n4_ n5_ n6_ n7_ n8_;clear hb ho29;obtain ⟨Ao30,co30,eo30⟩ := Kd.R_slice HO285.out;subst eo30;obtain ⟨Ao31,co31,eo31⟩ := Kd.R_slice HO288.out;subst eo31;obtain ⟨Ao32,co32,eo32⟩ := Kd.R_slice HO291.out;subst eo32)|((with_reducible refine gate_callee (f := 15) rfl ?_);refine goesL_ (some 18) rfl rfl Try.func15 (by kernel_rfl) rfl #[.agg #[.int .u64 t280,.int .i64 t281,.int .i64 t282],.slice Ao30 y283.length co30,.int .u64 29,.slice Ao31 y286.length co31,.slice Ao32 y289.length co32] rfl (by (try simp only [List.map_toArray,List.map_cons,List.map_nil]);first|done|rfl|(simp only [List.length_drop,List.length_take];rfl)) ?_;(with_reducible refine (tapeshift_Sharing.calls k t280 t281 t282 _ _ y283 29 _ _ y286 _ _ y289 t292 t295 _ ?side1 ?side2 ?side3 ?side4 ?side5 ?side6 A4.out).mono ?_);(case side1 => repeat (first|exact (Kd.R_reads' HO285.out).2.2|(with_reducible refine Kd.C_alloc ?_ _)|(with_reducible refine Kd.C_drewN ?_ _)|(with_reducible refine Kd.C_drew ?_)));(case side2 => exact (Kd.R_reads' HO285.out).2.1);(case side3 => repeat (first|exact (Kd.R_reads' HO288.out).2.2|(with_reducible refine Kd.C_alloc ?_ _)|(with_reducible refine Kd.C_drewN ?_ _)|(with_reducible refine Kd.C_drew ?_)));(case side4 => exact (Kd.R_reads' HO288.out).2.1);(case side5 => repeat (first|exact (Kd.R_reads' HO291.out).2.2|(with_reducible refine Kd.C_alloc ?_ _)|(with_reducible refine Kd.C_drewN ?_ _)|(with_reducible refine Kd.C_drew ?_)));(case side6 => exact (Kd.R_reads' HO291.out).2.1);rintro e w33 ⟨v293,v296,rfl,ho0,ho1,hb⟩;refine ⟨_,rfl,?_⟩;have n0_ := Aside0.mk (Kd.R_below (by (with_reducible repeat (first|apply Kd.R_alloc|apply Kd.R_drewN|apply Kd.R_drew));exact HO267.out) hb);have n1_ := Aside0.mk (Kd.R_mono (Kd.R_told (Kd.R_told (Kd.R_old (by (with_reducible repeat (first|apply Kd.R_alloc|apply Kd.R_drewN|apply Kd.R_drew));exact HO270.out) hb) (Kd.R_base ho0)) (Kd.R_base ho1)) (fun _ h_ => h_.1));have n2_ := Aside0.mk (Kd.R_mono (Kd.R_told (Kd.R_told (Kd.R_old (by (with_reducible repeat (first|apply Kd.R_alloc|apply Kd.R_drewN|apply Kd.R_drew));exact HO273.out) hb) (Kd.R_base ho0)) (Kd.R_base ho1)) (fun _ h_ => h_.1));have n3_ := Aside0.mk (Kd.R_mono (Kd.R_told (Kd.R_told (Kd.R_old (by (with_reducible repeat (first|apply Kd.R_alloc|apply Kd.R_drewN|apply Kd.R_drew));exact HO276.out) hb) (Kd.R_base ho0)) (Kd.R_base ho1)) (fun _ h_ => h_.1));have n4_ := Aside0.mk (Kd.R_mono (Kd.R_told (Kd.R_told (Kd.R_old (by (with_reducible repeat (first|apply Kd.R_alloc|apply Kd.R_drewN|apply Kd.R_drew));exact HO279.out) hb) (Kd.R_base ho0)) (Kd.R_base ho1)) (fun _ h_ => h_.1));have n5_ := Aside0.mk (Kd.R_below (by (with_reducible repeat (first|apply Kd.R_alloc|apply Kd.R_drewN|apply Kd.R_drew));exact HO285.out) hb);have n6_ := Aside0.mk (Kd.R_mono (Kd.R_told (Kd.R_told (Kd.R_old (by (with_reducible repeat (first|apply Kd.R_alloc|apply Kd.R_drewN|apply Kd.R_drew));exact HO288.out) hb) (Kd.R_base ho0)) (Kd.R_base ho1)) (fun _ h_ => h_.1));have n7_ := Aside0.mk (Kd.R_mono (Kd.R_told (Kd.R_told (Kd.R_old (by (with_reducible repeat (first|apply Kd.R_alloc|apply Kd.R_drewN|apply Kd.R_drew));exact HO291.out) hb) (Kd.R_base ho0)) (Kd.R_base ho1)) (fun _ h_ => h_.1));have n8_ := Aside0.mk (Kd.R_lower (Kd.R_new' (Kd.R_new' (Kd.R_new' (Kd.R_new' (Kd.R_new' (Kd.R_new' ho0 (Kd.R_lt (by (with_reducible repeat (first|apply Kd.R_alloc|apply Kd.R_drewN|apply Kd.R_drew));exact HO270.out))) (Kd.R_lt (by (with_reducible repeat (first|apply Kd.R_alloc|apply Kd.R_drewN|apply Kd.R_drew));exact HO273.out))) (Kd.R_lt (by (with_reducible repeat (first|apply Kd.R_alloc|apply Kd.R_drewN|apply Kd.R_drew));exact HO276.out))) (Kd.R_lt (by (with_reducible repeat (first|apply Kd.R_alloc|apply Kd.R_drewN|apply Kd.R_drew));exact HO279.out))) (Kd.R_lt (by (with_reducible repeat (first|apply Kd.R_alloc|apply Kd.R_drewN|apply Kd.R_drew));exact HO288.out))) (Kd.R_lt (by (with_reducible repeat (first|apply Kd.R_alloc|apply Kd.R_drewN|apply Kd.R_drew));exact HO291.out))) (below_size (by repeat (first|(with_reducible first|exact HB.out|apply below_alloc|apply pw_below_drewN|apply below_drew1)|exact HB.out))));have n9_ := Aside0.mk (Kd.R_lower (Kd.R_new' (Kd.R_new' (Kd.R_new' (Kd.R_new' (Kd.R_new' (Kd.R_new' ho1 (Kd.R_lt (by (with_reducible repeat (first|apply Kd.R_alloc|apply Kd.R_drewN|apply Kd.R_drew));exact HO270.out))) (Kd.R_lt (by (with_reducible repeat (first|apply Kd.R_alloc|apply Kd.R_drewN|apply Kd.R_drew));exact HO273.out))) (Kd.R_lt (by (with_reducible repeat (first|apply Kd.R_alloc|apply Kd.R_drewN|apply Kd.R_drew));exact HO276.out))) (Kd.R_lt (by (with_reducible repeat (first|apply Kd.R_alloc|apply Kd.R_drewN|apply Kd.R_drew));exact HO279.out))) (Kd.R_lt (by (with_reducible repeat (first|apply Kd.R_alloc|apply Kd.R_drewN|apply Kd.R_drew));exact HO288.out))) (Kd.R_lt (by (with_reducible repeat (first|apply Kd.R_alloc|apply Kd.R_drewN|apply Kd.R_drew));exact HO291.out))) (below_size (by repeat (first|(with_reducible first|exact HB.out|apply below_alloc|apply pw_below_drewN|apply below_drew1)|exact HB.out))));have n10_ := Aside0.mk (below_step (by repeat (first|(with_reducible first|exact HB.out|apply below_alloc|apply pw_below_drewN|apply below_drew1)|exact HB.out)) hb);clear HO267;clear HO270;clear HO273;clear HO276;clear HO279;clear HO285;clear HO288;clear HO291;clear HB;have HO267 := n0_;have HO270 := n1_;have HO273 := n2_;have HO276 := n3_;have HO279 := n4_;have HO285 := n5_;have HO288 := n6_;have HO291 := n7_;have HO294 := n8_;have HO297 := n9_;have HB := n10_;clear n0_ n1_ n2_ n3_ n4_ n5_ n6_ n7_ n8_ n9_ n10_;(try clear hb);(try clear hb2);(try clear hk);(try clear hi);(try clear ho0);(try clear ho1))|((with_reducible refine gate_dst (N := 22) rfl ?_);(try (refine gate_guard (by rfl) ?_;dsimp only));refine Kd.R_lit (Kd.int .u64) _ 22 ?hg (N := 22) ?hd (xs := ([7,22] : List Int)) (inner := [.int .u64 7,.int .u64 22]) (ok := fun _ => True) (okp := fun _ => True) ?hr ?hp (fun _ hk => hk) trivial (Below.refl _ _) (Nat.le_refl _) (by simp) ?_;(case hd => rfl);(case hg => rfl);(case hr => first|(go_simp;done)|(go_simp;rfl));(case hp => exact (Reps.one (show Kd.M (Kd.int .u64) _ _ _ 7 [.int .u64 7] from rfl) (Reps.one (show Kd.M (Kd.int .u64) _ _ _ 22 [.int .u64 22] from rfl) (Reps.none _ _))));intro v299 w34 ho35 hb hg_ hnew_;clear hg_ hnew_;(first|rw [← Ny298.out] at ho35|(simp only [Int.reduceToNat] at ho35;rw [← Ny298.out] at ho35));have n0_ := Aside0.mk (Kd.R_below (by (with_reducible repeat (first|apply Kd.R_alloc|apply Kd.R_drewN|apply Kd.R_drew));exact HO267.out) hb);have n1_ := Aside0.mk (Kd.R_elder' (by (with_reducible repeat (first|apply Kd.R_alloc|apply Kd.R_drewN|apply Kd.R_drew));exact HO270.out) (Kd.R_base ho35) hb);have n2_ := Aside0.mk (Kd.R_elder' (by (with_reducible repeat (first|apply Kd.R_alloc|apply Kd.R_drewN|apply Kd.R_drew));exact HO273.out) (Kd.R_base ho35) hb);have n3_ := Aside0.mk (Kd.R_elder' (by (with_reducible repeat (first|apply Kd.R_alloc|apply Kd.R_drewN|apply Kd.R_drew));exact HO276.out) (Kd.R_base ho35) hb);have n4_ := Aside0.mk (Kd.R_elder' (by (with_reducible repeat (first|apply Kd.R_alloc|apply Kd.R_drewN|apply Kd.R_drew));exact HO279.out) (Kd.R_base ho35) hb);have n5_ := Aside0.mk (Kd.R_below (by (with_reducible repeat (first|apply Kd.R_alloc|apply Kd.R_drewN|apply Kd.R_drew));exact HO285.out) hb);have n6_ := Aside0.mk (Kd.R_elder' (by (with_reducible repeat (first|apply Kd.R_alloc|apply Kd.R_drewN|apply Kd.R_drew));exact HO288.out) (Kd.R_base ho35) hb);have n7_ := Aside0.mk (Kd.R_elder' (by (with_reducible repeat (first|apply Kd.R_alloc|apply Kd.R_drewN|apply Kd.R_drew));exact HO291.out) (Kd.R_base ho35) hb);have n8_ := Aside0.mk (Kd.R_elder' (by (with_reducible repeat (first|apply Kd.R_alloc|apply Kd.R_drewN|apply Kd.R_drew));exact HO294.out) (Kd.R_base ho35) hb);have n9_ := Aside0.mk (Kd.R_elder' (by (with_reducible repeat (first|apply Kd.R_alloc|apply Kd.R_drewN|apply Kd.R_drew));exact HO297.out) (Kd.R_base ho35) hb);have n10_ := Aside0.mk (Kd.R_lower (Kd.R_new' (Kd.R_new' (Kd.R_new' (Kd.R_new' (Kd.R_new' (Kd.R_new' (Kd.R_new' (Kd.R_new' ho35 (Kd.R_lt (by (with_reducible repeat (first|apply Kd.R_alloc|apply Kd.R_drewN|apply Kd.R_drew));exact HO270.out))) (Kd.R_lt (by (with_reducible repeat (first|apply Kd.R_alloc|apply Kd.R_drewN|apply Kd.R_drew));exact HO273.out))) (Kd.R_lt (by (with_reducible repeat (first|apply Kd.R_alloc|apply Kd.R_drewN|apply Kd.R_drew));exact HO276.out))) (Kd.R_lt (by (with_reducible repeat (first|apply Kd.R_alloc|apply Kd.R_drewN|apply Kd.R_drew));exact HO279.out))) (Kd.R_lt (by (with_reducible repeat (first|apply Kd.R_alloc|apply Kd.R_drewN|apply Kd.R_drew));exact HO288.out))) (Kd.R_lt (by (with_reducible repeat (first|apply Kd.R_alloc|apply Kd.R_drewN|apply Kd.R_drew));exact HO291.out))) (Kd.R_lt (by (with_reducible repeat (first|apply Kd.R_alloc|apply Kd.R_drewN|apply Kd.R_drew));exact HO294.out))) (Kd.R_lt (by (with_reducible repeat (first|apply Kd.R_alloc|apply Kd.R_drewN|apply Kd.R_drew));exact HO297.out))) (below_size (by repeat (first|(with_reducible first|exact HB.out|apply below_alloc|apply pw_below_drewN|apply below_drew1)|exact HB.out))));have n11_ := Aside0.mk (below_step (by repeat (first|(with_reducible first|exact HB.out|apply below_alloc|apply pw_below_drewN|apply below_drew1)|exact HB.out)) hb);clear HO267;clear HO270;clear HO273;clear HO276;clear HO279;clear HO285;clear HO288;clear HO291;clear HO294;clear HO297;clear HB;have HO267 := n0_;have HO270 := n1_;have HO273 := n2_;have HO276 := n3_;have HO279 := n4_;have HO285 := n5_;have HO288 := n6_;have HO291 := n7_;have HO294 := n8_;have HO297 := n9_;have HO300 := n10_;have HB := n11_;clear n0_ n1_ n2_ n3_ n4_ n5_ n6_ n7_ n8_ n9_ n10_ n11_;clear hb ho35;obtain ⟨Ao36,co36,eo36⟩ := Kd.R_slice HO276.out;subst eo36;obtain ⟨Ao37,co37,eo37⟩ := Kd.R_slice HO300.out;subst eo37)|((with_reducible refine gate_callee (f := 18) rfl ?_);refine goesL_ (some 23) rfl rfl Try.func18 (by kernel_rfl) rfl #[.slice Ao36 t274.length co36,.slice Ao37 y298.length co37] rfl (by (try simp only [List.map_toArray,List.map_cons,List.map_nil]);first|done|rfl|(simp only [List.length_drop,List.length_take];rfl)) ?_;(with_reducible refine (privityref14_Words.calls k _ _ t274 _ _ y298 true _ ?side1 ?side2 ?side3 ?side4 A5.out).mono ?_);(case side1 => repeat (first|exact (Kd.R_reads' HO276.out).2.2|(with_reducible refine Kd.C_alloc ?_ _)|(with_reducible refine Kd.C_drewN ?_ _)|(with_reducible refine Kd.C_drew ?_)));(case side2 => exact (Kd.R_reads' HO276.out).2.1);(case side3 => repeat (first|exact (Kd.R_reads' HO300.out).2.2|(with_reducible refine Kd.C_alloc ?_ _)|(with_reducible refine Kd.C_drewN ?_ _)|(with_reducible refine Kd.C_drew ?_)));(case side4 => exact (Kd.R_reads' HO300.out).2.1);rintro e w' ⟨rfl,⟨nd,rfl⟩⟩;refine ⟨_,rfl,?_⟩)|((with_reducible refine gate_dst (N := 26) rfl ?_);(try (refine gate_guard (by rfl) ?_;dsimp only));refine Kd.R_lit (Kd.int .u64) _ 22 ?hg (N := 26) ?hd (xs := ([17] : List Int)) (inner := [.int .u64 17]) (ok := fun _ => True) (okp := fun _ => True) ?hr ?hp (fun _ hk => hk) trivial (Below.refl _ _) (Nat.le_refl _) (by simp) ?_;(case hd => rfl);(case hg => rfl);(case hr => first|(go_simp;done)|(go_simp;rfl));(case hp => exact (Reps.one (show Kd.M (Kd.int .u64) _ _ _ 17 [.int .u64 17] from rfl) (Reps.none _ _)));intro v303 w38 ho39 hb hg_ hnew_;clear hg_ hnew_;(first|rw [← Ny302.out] at ho39|(simp only [Int.reduceToNat] at ho39;rw [← Ny302.out] at ho39));have n0_ := Aside0.mk (Kd.R_below (by (with_reducible repeat (first|apply Kd.R_alloc|apply Kd.R_drewN|apply Kd.R_drew));exact HO267.out) hb);have n1_ := Aside0.mk (Kd.R_elder' (by (with_reducible repeat (first|apply Kd.R_alloc|apply Kd.R_drewN|apply Kd.R_drew));exact HO270.out) (Kd.R_base ho39) hb);have n2_ := Aside0.mk (Kd.R_elder' (by (with_reducible repeat (first|apply Kd.R_alloc|apply Kd.R_drewN|apply Kd.R_drew));exact HO273.out) (Kd.R_base ho39) hb);have n3_ := Aside0.mk (Kd.R_elder' (by (with_reducible repeat (first|apply Kd.R_alloc|apply Kd.R_drewN|apply Kd.R_drew));exact HO276.out) (Kd.R_base ho39) hb);have n4_ := Aside0.mk (Kd.R_elder' (by (with_reducible repeat (first|apply Kd.R_alloc|apply Kd.R_drewN|apply Kd.R_drew));exact HO279.out) (Kd.R_base ho39) hb);have n5_ := Aside0.mk (Kd.R_below (by (with_reducible repeat (first|apply Kd.R_alloc|apply Kd.R_drewN|apply Kd.R_drew));exact HO285.out) hb);have n6_ := Aside0.mk (Kd.R_elder' (by (with_reducible repeat (first|apply Kd.R_alloc|apply Kd.R_drewN|apply Kd.R_drew));exact HO288.out) (Kd.R_base ho39) hb);have n7_ := Aside0.mk (Kd.R_elder' (by (with_reducible repeat (first|apply Kd.R_alloc|apply Kd.R_drewN|apply Kd.R_drew));exact HO291.out) (Kd.R_base ho39) hb);have n8_ := Aside0.mk (Kd.R_elder' (by (with_reducible repeat (first|apply Kd.R_alloc|apply Kd.R_drewN|apply Kd.R_drew));exact HO294.out) (Kd.R_base ho39) hb);have n9_ := Aside0.mk (Kd.R_elder' (by (with_reducible repeat (first|apply Kd.R_alloc|apply Kd.R_drewN|apply Kd.R_drew));exact HO297.out) (Kd.R_base ho39) hb);have n10_ := Aside0.mk (Kd.R_elder' (by (with_reducible repeat (first|apply Kd.R_alloc|apply Kd.R_drewN|apply Kd.R_drew));exact HO300.out) (Kd.R_base ho39) hb);have n11_ := Aside0.mk (Kd.R_lower (Kd.R_new' (Kd.R_new' (Kd.R_new' (Kd.R_new' (Kd.R_new' (Kd.R_new' (Kd.R_new' (Kd.R_new' (Kd.R_new' ho39 (Kd.R_lt (by (with_reducible repeat (first|apply Kd.R_alloc|apply Kd.R_drewN|apply Kd.R_drew));exact HO270.out))) (Kd.R_lt (by (with_reducible repeat (first|apply Kd.R_alloc|apply Kd.R_drewN|apply Kd.R_drew));exact HO273.out))) (Kd.R_lt (by (with_reducible repeat (first|apply Kd.R_alloc|apply Kd.R_drewN|apply Kd.R_drew));exact HO276.out))) (Kd.R_lt (by (with_reducible repeat (first|apply Kd.R_alloc|apply Kd.R_drewN|apply Kd.R_drew));exact HO279.out))) (Kd.R_lt (by (with_reducible repeat (first|apply Kd.R_alloc|apply Kd.R_drewN|apply Kd.R_drew));exact HO288.out))) (Kd.R_lt (by (with_reducible repeat (first|apply Kd.R_alloc|apply Kd.R_drewN|apply Kd.R_drew));exact HO291.out))) (Kd.R_lt (by (with_reducible repeat (first|apply Kd.R_alloc|apply Kd.R_drewN|apply Kd.R_drew));exact HO294.out))) (Kd.R_lt (by (with_reducible repeat (first|apply Kd.R_alloc|apply Kd.R_drewN|apply Kd.R_drew));exact HO297.out))) (Kd.R_lt (by (with_reducible repeat (first|apply Kd.R_alloc|apply Kd.R_drewN|apply Kd.R_drew));exact HO300.out))) (below_size (by repeat (first|(with_reducible first|exact HB.out|apply below_alloc|apply pw_below_drewN|apply below_drew1)|exact HB.out))));have n12_ := Aside0.mk (below_step (by repeat (first|(with_reducible first|exact HB.out|apply below_alloc|apply pw_below_drewN|apply below_drew1)|exact HB.out)) hb);clear HO267;clear HO270;clear HO273;clear HO276;clear HO279;clear HO285;clear HO288;clear HO291;clear HO294;clear HO297;clear HO300;clear HB;have HO267 := n0_;have HO270 := n1_;have HO273 := n2_;have HO276 := n3_;have HO279 := n4_;have HO285 := n5_;have HO288 := n6_;have HO291 := n7_;have HO294 := n8_;have HO297 := n9_;have HO300 := n10_;have HO304 := n11_;have HB := n12_;clear n0_ n1_ n2_ n3_ n4_ n5_ n6_ n7_ n8_ n9_ n10_ n11_ n12_;clear hb ho39;obtain ⟨Ao40,co40,eo40⟩ := Kd.R_slice HO279.out;subst eo40;obtain ⟨Ao41,co41,eo41⟩ := Kd.R_slice HO304.out;subst eo41)|(go_at_call 18;(with_reducible refine (privityref14_Words.calls k _ _ t277 _ _ y302 true _ ?side1 ?side2 ?side3 ?side4 A7.out).mono ?_);(case side1 => repeat (first|exact (Kd.R_reads' HO279.out).2.2|(with_reducible refine Kd.C_alloc ?_ _)|(with_reducible refine Kd.C_drewN ?_ _)|(with_reducible refine Kd.C_drew ?_)));(case side2 => exact (Kd.R_reads' HO279.out).2.1);(case side3 => repeat (first|exact (Kd.R_reads' HO304.out).2.2|(with_reducible refine Kd.C_alloc ?_ _)|(with_reducible refine Kd.C_drewN ?_ _)|(with_reducible refine Kd.C_drew ?_)));(case side4 => exact (Kd.R_reads' HO304.out).2.1);rintro e w' ⟨rfl,⟨nd,rfl⟩⟩)|((with_reducible refine gate_dst (N := 31) rfl ?_);(try (refine gate_guard (by rfl) ?_;dsimp only));refine Kd.R_lit (Kd.int .u64) _ 22 ?hg (N := 31) ?hd (xs := ([5,2] : List Int)) (inner := [.int .u64 5,.int .u64 2]) (ok := fun _ => True) (okp := fun _ => True) ?hr ?hp (fun _ hk => hk) trivial (Below.refl _ _) (Nat.le_refl _) (by simp) ?_;(case hd => rfl);(case hg => rfl);(case hr => first|(go_simp;done)|(go_simp;rfl));(case hp => exact (Reps.one (show Kd.M (Kd.int .u64) _ _ _ 5 [.int .u64 5] from rfl) (Reps.one (show Kd.M (Kd.int .u64) _ _ _ 2 [.int .u64 2] from rfl) (Reps.none _ _))));intro v307 w42 ho43 hb hg_ hnew_;clear hg_ hnew_;(first|rw [← Ny306.out] at ho43|(simp only [Int.reduceToNat] at ho43;rw [← Ny306.out] at ho43));have n0_ := Aside0.mk (Kd.R_below (by (with_reducible repeat (first|apply Kd.R_alloc|apply Kd.R_drewN|apply Kd.R_drew));exact HO267.out) hb);have n1_ := Aside0.mk (Kd.R_elder' (by (with_reducible repeat (first|apply Kd.R_alloc|apply Kd.R_drewN|apply Kd.R_drew));exact HO270.out) (Kd.R_base ho43) hb);have n2_ := Aside0.mk (Kd.R_elder' (by (with_reducible repeat (first|apply Kd.R_alloc|apply Kd.R_drewN|apply Kd.R_drew));exact HO273.out) (Kd.R_base ho43) hb);have n3_ := Aside0.mk (Kd.R_elder' (by (with_reducible repeat (first|apply Kd.R_alloc|apply Kd.R_drewN|apply Kd.R_drew));exact HO276.out) (Kd.R_base ho43) hb);have n4_ := Aside0.mk (Kd.R_elder' (by (with_reducible repeat (first|apply Kd.R_alloc|apply Kd.R_drewN|apply Kd.R_drew));exact HO279.out) (Kd.R_base ho43) hb);have n5_ := Aside0.mk (Kd.R_below (by (with_reducible repeat (first|apply Kd.R_alloc|apply Kd.R_drewN|apply Kd.R_drew));exact HO285.out) hb);have n6_ := Aside0.mk (Kd.R_elder' (by (with_reducible repeat (first|apply Kd.R_alloc|apply Kd.R_drewN|apply Kd.R_drew));exact HO288.out) (Kd.R_base ho43) hb);have n7_ := Aside0.mk (Kd.R_elder' (by (with_reducible repeat (first|apply Kd.R_alloc|apply Kd.R_drewN|apply Kd.R_drew));exact HO291.out) (Kd.R_base ho43) hb);have n8_ := Aside0.mk (Kd.R_elder' (by (with_reducible repeat (first|apply Kd.R_alloc|apply Kd.R_drewN|apply Kd.R_drew));exact HO294.out) (Kd.R_base ho43) hb);have n9_ := Aside0.mk (Kd.R_elder' (by (with_reducible repeat (first|apply Kd.R_alloc|apply Kd.R_drewN|apply Kd.R_drew));exact HO297.out) (Kd.R_base ho43) hb);have n10_ := Aside0.mk (Kd.R_elder' (by (with_reducible repeat (first|apply Kd.R_alloc|apply Kd.R_drewN|apply Kd.R_drew));exact HO300.out) (Kd.R_base ho43) hb);have n11_ := Aside0.mk (Kd.R_elder' (by (with_reducible repeat (first|apply Kd.R_alloc|apply Kd.R_drewN|apply Kd.R_drew));exact HO304.out) (Kd.R_base ho43) hb);have n12_ := Aside0.mk (Kd.R_lower (Kd.R_new' (Kd.R_new' (Kd.R_new' (Kd.R_new' (Kd.R_new' (Kd.R_new' (Kd.R_new' (Kd.R_new' (Kd.R_new' (Kd.R_new' ho43 (Kd.R_lt (by (with_reducible repeat (first|apply Kd.R_alloc|apply Kd.R_drewN|apply Kd.R_drew));exact HO270.out))) (Kd.R_lt (by (with_reducible repeat (first|apply Kd.R_alloc|apply Kd.R_drewN|apply Kd.R_drew));exact HO273.out))) (Kd.R_lt (by (with_reducible repeat (first|apply Kd.R_alloc|apply Kd.R_drewN|apply Kd.R_drew));exact HO276.out))) (Kd.R_lt (by (with_reducible repeat (first|apply Kd.R_alloc|apply Kd.R_drewN|apply Kd.R_drew));exact HO279.out))) (Kd.R_lt (by (with_reducible repeat (first|apply Kd.R_alloc|apply Kd.R_drewN|apply Kd.R_drew));exact HO288.out))) (Kd.R_lt (by (with_reducible repeat (first|apply Kd.R_alloc|apply Kd.R_drewN|apply Kd.R_drew));exact HO291.out))) (Kd.R_lt (by (with_reducible repeat (first|apply Kd.R_alloc|apply Kd.R_drewN|apply Kd.R_drew));exact HO294.out))) (Kd.R_lt (by (with_reducible repeat (first|apply Kd.R_alloc|apply Kd.R_drewN|apply Kd.R_drew));exact HO297.out))) (Kd.R_lt (by (with_reducible repeat (first|apply Kd.R_alloc|apply Kd.R_drewN|apply Kd.R_drew));exact HO300.out))) (Kd.R_lt (by (with_reducible repeat (first|apply Kd.R_alloc|apply Kd.R_drewN|apply Kd.R_drew));exact HO304.out))) (below_size (by repeat (first|(with_reducible first|exact HB.out|apply below_alloc|apply pw_below_drewN|apply below_drew1)|exact HB.out))));have n13_ := Aside0.mk (below_step (by repeat (first|(with_reducible first|exact HB.out|apply below_alloc|apply pw_below_drewN|apply below_drew1)|exact HB.out)) hb);clear HO267;clear HO270;clear HO273;clear HO276;clear HO279;clear HO285;clear HO288;clear HO291;clear HO294;clear HO297;clear HO300;clear HO304;clear HB;have HO267 := n0_;have HO270 := n1_;have HO273 := n2_;have HO276 := n3_;have HO279 := n4_;have HO285 := n5_;have HO288 := n6_;have HO291 := n7_;have HO294 := n8_;have HO297 := n9_;have HO300 := n10_;have HO304 := n11_;have HO308 := n12_;have HB := n13_;clear n0_ n1_ n2_ n3_ n4_ n5_ n6_ n7_ n8_ n9_ n10_ n11_ n12_ n13_;clear hb ho43;obtain ⟨Ao44,co44,eo44⟩ := Kd.R_slice HO294.out;subst eo44;obtain ⟨Ao45,co45,eo45⟩ := Kd.R_slice HO308.out;subst eo45)|(go_at_call 18;(with_reducible refine (privityref14_Words.calls k _ _ t292 _ _ y306 true _ ?side1 ?side2 ?side3 ?side4 A9.out).mono ?_);(case side1 => repeat (first|exact (Kd.R_reads' HO294.out).2.2|(with_reducible refine Kd.C_alloc ?_ _)|(with_reducible refine Kd.C_drewN ?_ _)|(with_reducible refine Kd.C_drew ?_)));(case side2 => exact (Kd.R_reads' HO294.out).2.1);(case side3 => repeat (first|exact (Kd.R_reads' HO308.out).2.2|(with_reducible refine Kd.C_alloc ?_ _)|(with_reducible refine Kd.C_drewN ?_ _)|(with_reducible refine Kd.C_drew ?_)));(case side4 => exact (Kd.R_reads' HO308.out).2.1);rintro e w' ⟨rfl,⟨nd,rfl⟩⟩)|((with_reducible refine gate_dst (N := 36) rfl ?_);(try (refine gate_guard (by rfl) ?_;dsimp only));refine Kd.R_lit (Kd.int .u64) _ 22 ?hg (N := 36) ?hd (xs := ([3] : List Int)) (inner := [.int .u64 3]) (ok := fun _ => True) (okp := fun _ => True) ?hr ?hp (fun _ hk => hk) trivial (Below.refl _ _) (Nat.le_refl _) (by simp) ?_;(case hd => rfl);(case hg => rfl);(case hr => first|(go_simp;done)|(go_simp;rfl));(case hp => exact (Reps.one (show Kd.M (Kd.int .u64) _ _ _ 3 [.int .u64 3] from rfl) (Reps.none _ _)));intro v311 w46 ho47 hb hg_ hnew_;clear hg_ hnew_;(first|rw [← Ny310.out] at ho47|(simp only [Int.reduceToNat] at ho47;rw [← Ny310.out] at ho47));have n0_ := Aside0.mk (Kd.R_below (by (with_reducible repeat (first|apply Kd.R_alloc|apply Kd.R_drewN|apply Kd.R_drew));exact HO267.out) hb);have n1_ := Aside0.mk (Kd.R_elder' (by (with_reducible repeat (first|apply Kd.R_alloc|apply Kd.R_drewN|apply Kd.R_drew));exact HO270.out) (Kd.R_base ho47) hb);have n2_ := Aside0.mk (Kd.R_elder' (by (with_reducible repeat (first|apply Kd.R_alloc|apply Kd.R_drewN|apply Kd.R_drew));exact HO273.out) (Kd.R_base ho47) hb);have n3_ := Aside0.mk (Kd.R_elder' (by (with_reducible repeat (first|apply Kd.R_alloc|apply Kd.R_drewN|apply Kd.R_drew));exact HO276.out) (Kd.R_base ho47) hb);have n4_ := Aside0.mk (Kd.R_elder' (by (with_reducible repeat (first|apply Kd.R_alloc|apply Kd.R_drewN|apply Kd.R_drew));exact HO279.out) (Kd.R_base ho47) hb);have n5_ := Aside0.mk (Kd.R_below (by (with_reducible repeat (first|apply Kd.R_alloc|apply Kd.R_drewN|apply Kd.R_drew));exact HO285.out) hb);have n6_ := Aside0.mk (Kd.R_elder' (by (with_reducible repeat (first|apply Kd.R_alloc|apply Kd.R_drewN|apply Kd.R_drew));exact HO288.out) (Kd.R_base ho47) hb);have n7_ := Aside0.mk (Kd.R_elder' (by (with_reducible repeat (first|apply Kd.R_alloc|apply Kd.R_drewN|apply Kd.R_drew));exact HO291.out) (Kd.R_base ho47) hb);have n8_ := Aside0.mk (Kd.R_elder' (by (with_reducible repeat (first|apply Kd.R_alloc|apply Kd.R_drewN|apply Kd.R_drew));exact HO294.out) (Kd.R_base ho47) hb);have n9_ := Aside0.mk (Kd.R_elder' (by (with_reducible repeat (first|apply Kd.R_alloc|apply Kd.R_drewN|apply Kd.R_drew));exact HO297.out) (Kd.R_base ho47) hb);have n10_ := Aside0.mk (Kd.R_elder' (by (with_reducible repeat (first|apply Kd.R_alloc|apply Kd.R_drewN|apply Kd.R_drew));exact HO300.out) (Kd.R_base ho47) hb);have n11_ := Aside0.mk (Kd.R_elder' (by (with_reducible repeat (first|apply Kd.R_alloc|apply Kd.R_drewN|apply Kd.R_drew));exact HO304.out) (Kd.R_base ho47) hb);have n12_ := Aside0.mk (Kd.R_elder' (by (with_reducible repeat (first|apply Kd.R_alloc|apply Kd.R_drewN|apply Kd.R_drew));exact HO308.out) (Kd.R_base ho47) hb);have n13_ := Aside0.mk (Kd.R_lower (Kd.R_new' (Kd.R_new' (Kd.R_new' (Kd.R_new' (Kd.R_new' (Kd.R_new' (Kd.R_new' (Kd.R_new' (Kd.R_new' (Kd.R_new' (Kd.R_new' ho47 (Kd.R_lt (by (with_reducible repeat (first|apply Kd.R_alloc|apply Kd.R_drewN|apply Kd.R_drew));exact HO270.out))) (Kd.R_lt (by (with_reducible repeat (first|apply Kd.R_alloc|apply Kd.R_drewN|apply Kd.R_drew));exact HO273.out))) (Kd.R_lt (by (with_reducible repeat (first|apply Kd.R_alloc|apply Kd.R_drewN|apply Kd.R_drew));exact HO276.out))) (Kd.R_lt (by (with_reducible repeat (first|apply Kd.R_alloc|apply Kd.R_drewN|apply Kd.R_drew));exact HO279.out))) (Kd.R_lt (by (with_reducible repeat (first|apply Kd.R_alloc|apply Kd.R_drewN|apply Kd.R_drew));exact HO288.out))) (Kd.R_lt (by (with_reducible repeat (first|apply Kd.R_alloc|apply Kd.R_drewN|apply Kd.R_drew));exact HO291.out))) (Kd.R_lt (by (with_reducible repeat (first|apply Kd.R_alloc|apply Kd.R_drewN|apply Kd.R_drew));exact HO294.out))) (Kd.R_lt (by (with_reducible repeat (first|apply Kd.R_alloc|apply Kd.R_drewN|apply Kd.R_drew));exact HO297.out))) (Kd.R_lt (by (with_reducible repeat (first|apply Kd.R_alloc|apply Kd.R_drewN|apply Kd.R_drew));exact HO300.out))) (Kd.R_lt (by (with_reducible repeat (first|apply Kd.R_alloc|apply Kd.R_drewN|apply Kd.R_drew));exact HO304.out))) (Kd.R_lt (by (with_reducible repeat (first|apply Kd.R_alloc|apply Kd.R_drewN|apply Kd.R_drew));exact HO308.out))) (below_size (by repeat (first|(with_reducible first|exact HB.out|apply below_alloc|apply pw_below_drewN|apply below_drew1)|exact HB.out))));have n14_ := Aside0.mk (below_step (by repeat (first|(with_reducible first|exact HB.out|apply below_alloc|apply pw_below_drewN|apply below_drew1)|exact HB.out)) hb);clear HO267;clear HO270;clear HO273;clear HO276;clear HO279;clear HO285;clear HO288;clear HO291;clear HO294;clear HO297;clear HO300;clear HO304;clear HO308;clear HB;have HO267 := n0_;have HO270 := n1_;have HO273 := n2_;have HO276 := n3_;have HO279 := n4_;have HO285 := n5_;have HO288 := n6_;have HO291 := n7_;have HO294 := n8_;have HO297 := n9_;have HO300 := n10_;have HO304 := n11_;have HO308 := n12_;have HO312 := n13_;have HB := n14_;clear n0_ n1_ n2_ n3_ n4_ n5_ n6_ n7_ n8_ n9_ n10_ n11_ n12_ n13_ n14_;clear hb ho47;obtain ⟨Ao48,co48,eo48⟩ := Kd.R_slice HO297.out;subst eo48;obtain ⟨Ao49,co49,eo49⟩ := Kd.R_slice HO312.out;subst eo49)|(go_at_call 18;(with_reducible refine (privityref14_Words.calls k _ _ t295 _ _ y310 t313 _ ?side1 ?side2 ?side3 ?side4 A11.out).mono ?_);(case side1 => repeat (first|exact (Kd.R_reads' HO297.out).2.2|(with_reducible refine Kd.C_alloc ?_ _)|(with_reducible refine Kd.C_drewN ?_ _)|(with_reducible refine Kd.C_drew ?_)));(case side2 => exact (Kd.R_reads' HO297.out).2.1);(case side3 => repeat (first|exact (Kd.R_reads' HO312.out).2.2|(with_reducible refine Kd.C_alloc ?_ _)|(with_reducible refine Kd.C_drewN ?_ _)|(with_reducible refine Kd.C_drew ?_)));(case side4 => exact (Kd.R_reads' HO312.out).2.1);rintro e w' ⟨rfl,⟨nd,rfl⟩⟩))
    go_ret
    exact ⟨by first|rfl|(simp [errW_none,errW_some] <;> rfl)|(simp [*,errW_none,errW_some] <;> rfl),by repeat (first|(with_reducible first|exact HB.out|apply below_alloc|apply pw_below_drewN|apply below_drew1)|exact HB.out)⟩
   ·replace c10 := Bool.eq_false_iff.mpr c10
    subst c10
    have H1 : (some false) = some r := by rw [if_neg (show ¬ (false = true) by decide)] at H;exact H
    clear H
    have H := H1
    clear H1
    exact absurd (Option.some.inj H) (by rw [HR1.out];simp)
  ·replace c8 := Bool.eq_false_iff.mpr c8
   subst c8
   have H1 : (some false) = some r := by rw [if_neg (show ¬ (false = true) by decide)] at H;exact H
   clear H
   have H := H1
   clear H1
   exact absurd (Option.some.inj H) (by rw [HR1.out];simp)
 ·replace c6 := Bool.eq_false_iff.mpr c6
  subst c6
  have H1 : (some false) = some r := by rw [if_neg (show ¬ (false = true) by decide)] at H;exact H
  clear H
  have H := H1
  clear H1
  exact absurd (Option.some.inj H) (by rw [HR1.out];simp)
end Go.Proofs.Ytejeelpnmdfibaa.Pr
end
section
/- Printed by a program of this seat (the kit's printer, with the functions that were proved by hand given to it). What stands here: the functions that the statements reach, as plain functions, and that the Go code computes them. -/
namespace Go.Proofs.Ytejeelpnmdfibaa.Pr
open Go.RowKit Go.Proofs.YtejeelpnmdfibaaW.PrintWords Go.Proofs.YtejeelpnmdfibaaW.PrintLast Go.Proofs.YtejeelpnmdfibaaW.PrintMore
attribute [local go_sem] max2_int min2_int max_two min_two max_three min_three max_four min_four   -- for this text's walks alone
set_option linter.unusedVariables false
set_option linter.unusedSimpArgs false

open Go.Proofs.Ytejeelpnmdfibaa.Hw
/-! ### privitylaw43_cut: function 42 -/
def privitylaw43_cut.l0 : Nat → Int → Int → List Int → Int → Int → Int → Int → List Int → Int → Int → List Int → Option (List Int)
 | 0,_,_,_,_,_,_,_,_,_,_,_ => none
 | k + 1,x1,x2,x7,x8,x315000,x315001,x315002,x315003,x315004,x315005,x315006 => if x8 < (wrap64 (x1 + x2)) then (if x8 < (x315006.length : Int) then (if 0 ≤ x8 then (if x315000 = 0 then (none) else (if x7.length < 17592186044416 then (privitylaw43_cut.l0 k x1 x2 (x7 ++ [Int.tmod (rd x315006 x8) x315000]) (wrap64 (x8 + 1)) x315000 x315001 x315002 x315003 x315004 x315005 x315006) else (none))) else (none)) else (if x7.length < 17592186044416 then (privitylaw43_cut.l0 k x1 x2 (x7 ++ [0]) (wrap64 (x8 + 1)) x315000 x315001 x315002 x315003 x315004 x315005 x315006) else (none))) else (some x7)
def privitylaw43_cut.f (k : Nat) (a0_0 : Int) (a0_1 : Int) (a0_2 : Int) (l0_3 : List Int) (a0_4 : Int) (a0_5 : Int) (l0_6 : List Int) (a1 : Int) (a2 : Int) : Option (List Int) := privitylaw43_cut.l0 k a1 a2 ([] : List Int) a1 a0_0 a0_1 a0_2 l0_3 a0_4 a0_5 l0_6
theorem privitylaw43_cut.mono_l : ∀ k, (∀ y0 y1 y2 y3 y4 y5 y6 y7 y8 y9 y10, LeO (privitylaw43_cut.l0 k y0 y1 y2 y3 y4 y5 y6 y7 y8 y9 y10) (privitylaw43_cut.l0 (k + 1) y0 y1 y2 y3 y4 y5 y6 y7 y8 y9 y10))
 | 0 => fun _ _ _ _ _ _ _ _ _ _ _ r h => by simp [privitylaw43_cut.l0] at h
 | k + 1 => by
  have ih0 := privitylaw43_cut.mono_l k
  ·intro y0 y1 y2 y3 y4 y5 y6 y7 y8 y9 y10
   unfold privitylaw43_cut.l0
   repeat' first
   | (with_reducible exact ih0 _ _ _ _ _ _ _ _ _ _ _)
   | (with_reducible exact LeO.refl _)
   | (with_reducible exact LeO.none _)
   | (with_reducible refine LeO.ite ?_ ?_)
   | (with_reducible refine LeO.bind ?_ (fun _ => ?_))
   | exact ih0 _ _ _ _ _ _ _ _ _ _ _
   | exact LeO.none _
   | refine LeO.ite ?_ ?_
   | refine LeO.bind ?_ (fun _ => ?_)
theorem privitylaw43_cut.mono : ∀ a0 a1 a2 a3 a4 a5 a6 a7 a8 k, LeO (privitylaw43_cut.f k a0 a1 a2 a3 a4 a5 a6 a7 a8) (privitylaw43_cut.f (k + 1) a0 a1 a2 a3 a4 a5 a6 a7 a8) := by
 intro a0 a1 a2 a3 a4 a5 a6 a7 a8 k
 have ih0 := privitylaw43_cut.mono_l k
 unfold privitylaw43_cut.f
 repeat' first
   | (with_reducible exact ih0 _ _ _ _ _ _ _ _ _ _ _)
   | (with_reducible exact LeO.refl _)
   | (with_reducible exact LeO.none _)
   | (with_reducible refine LeO.ite ?_ ?_)
   | (with_reducible refine LeO.bind ?_ (fun _ => ?_))
   | exact ih0 _ _ _ _ _ _ _ _ _ _ _
   | exact LeO.none _
   | refine LeO.ite ?_ ?_
   | refine LeO.bind ?_ (fun _ => ?_)
set_option maxHeartbeats 8000000 in
set_option maxRecDepth 100000 in
theorem privitylaw43_cut.calls (k : Nat) (a0_0 : Int) (a0_1 : Int) (a0_2 : Int) (A0_3 : Option Addr) (c0_3 : Nat) (l0_3 : List Int) (a0_4 : Int) (a0_5 : Int) (A0_6 : Option Addr) (c0_6 : Nat) (l0_6 : List Int) (a1 : Int) (a2 : Int) (r : List Int) (w : World) (hr0_3 : Kd.C (Kd.int .i64) w A0_3 l0_3.length l0_3) (hc0_3 : l0_3.length ≤ c0_3) (hr0_6 : Kd.C (Kd.int .u64) w A0_6 l0_6.length l0_6) (hc0_6 : l0_6.length ≤ c0_6) (h : privitylaw43_cut.f k a0_0 a0_1 a0_2 l0_3 a0_4 a0_5 l0_6 a1 a2 = some r) :
  Calls Try.prog 42 #[.agg #[.int .u64 a0_0,.int .i64 a0_1,.int .i64 a0_2,.slice A0_3 l0_3.length c0_3,.int .u64 a0_4,.int .u64 a0_5,.slice A0_6 l0_6.length c0_6],.int .i64 a1,.int .i64 a2] w fun e w' => ∃ v0_ : Value,e = .returned (v0_) ∧ Kd.R (Kd.int .u64) 22 w' w.heap.size (fun _ => True) v0_ r ∧ Below w.heap.size w w' := by
 have hu28 := Try.underlying28
 have HR0_3 := Aside0.mk hr0_3
 have HC0_3 := Aside0.mk hc0_3
 clear hr0_3 hc0_3
 have HR0_6 := Aside0.mk hr0_6
 have HC0_6 := Aside0.mk hc0_6
 clear hr0_6 hc0_6
 have HB := Aside0.mk (Below.refl w.heap.size w)
 have H : (privitylaw43_cut.l0 k a1 a2 ([] : List Int) a1 a0_0 a0_1 a0_2 l0_3 a0_4 a0_5 l0_6) = some r := h
 clear h
 have H' := Aside0.mk H
 clear H
 go_enter Try.func42,Try.ntmps42
 go_wp2_with (first|((with_reducible refine gate_dst (N := 3) rfl ?_);refine box_event ?hg (N := 3) ?hd (cs := #[.int .u64 a0_0,.int .i64 a0_1,.int .i64 a0_2,.slice A0_3 l0_3.length c0_3,.int .u64 a0_4,.int .u64 a0_5,.slice A0_6 l0_6.length c0_6]) (t := 28) ?hr ?_;(case hd => rfl);(case hg => rfl);(case hr => first|(go_simp;done)|(go_simp;rfl));intro gb314 hg w4 hbox hb;have n0_ := Aside0.mk (below_step (by repeat (first|(with_reducible first|exact HB.out|apply below_alloc|apply pw_below_drewN|apply below_drew1)|exact HB.out)) hb);have n1_ := Aside0.mk (hbox);have n2_ := Aside0.mk ((by rw [hg];exact (below_size (by repeat (first|(with_reducible first|exact HB.out|apply below_alloc|apply pw_below_drewN|apply below_drew1)|exact HB.out))) : w.heap.size ≤ gb314));have n3_ := Aside0.mk ((by rw [hg];exact (below_size (by repeat (first|(with_reducible first|exact HB.out|apply below_alloc|apply pw_below_drewN|apply below_drew1)|exact HB.out))) : w.heap.size ≤ gb314));clear HB;have HB := n0_;have BK314 := n1_;have GW314 := n2_;have GE314 := n3_;clear n0_ n1_ n2_ n3_;clear hb hbox hg))
 repeat (go_quiet (first|((with_reducible refine gate_dst (N := 3) rfl ?_);refine box_event ?hg (N := 3) ?hd (cs := #[.int .u64 a0_0,.int .i64 a0_1,.int .i64 a0_2,.slice A0_3 l0_3.length c0_3,.int .u64 a0_4,.int .u64 a0_5,.slice A0_6 l0_6.length c0_6]) (t := 28) ?hr ?_;(case hd => rfl);(case hg => rfl);(case hr => first|(go_simp;done)|(go_simp;rfl));intro gb314 hg w4 hbox hb;have n0_ := Aside0.mk (below_step (by repeat (first|(with_reducible first|exact HB.out|apply below_alloc|apply pw_below_drewN|apply below_drew1)|exact HB.out)) hb);have n1_ := Aside0.mk (hbox);have n2_ := Aside0.mk ((by rw [hg];exact (below_size (by repeat (first|(with_reducible first|exact HB.out|apply below_alloc|apply pw_below_drewN|apply below_drew1)|exact HB.out))) : w.heap.size ≤ gb314));have n3_ := Aside0.mk ((by rw [hg];exact (below_size (by repeat (first|(with_reducible first|exact HB.out|apply below_alloc|apply pw_below_drewN|apply below_drew1)|exact HB.out))) : w.heap.size ≤ gb314));clear HB;have HB := n0_;have BK314 := n1_;have GW314 := n2_;have GE314 := n3_;clear n0_ n1_ n2_ n3_;clear hb hbox hg));try go_wp2_with (first|((with_reducible refine gate_dst (N := 3) rfl ?_);refine box_event ?hg (N := 3) ?hd (cs := #[.int .u64 a0_0,.int .i64 a0_1,.int .i64 a0_2,.slice A0_3 l0_3.length c0_3,.int .u64 a0_4,.int .u64 a0_5,.slice A0_6 l0_6.length c0_6]) (t := 28) ?hr ?_;(case hd => rfl);(case hg => rfl);(case hr => first|(go_simp;done)|(go_simp;rfl));intro gb314 hg w4 hbox hb;have n0_ := Aside0.mk (below_step (by repeat (first|(with_reducible first|exact HB.out|apply below_alloc|apply pw_below_drewN|apply below_drew1)|exact HB.out)) hb);have n1_ := Aside0.mk (hbox);have n2_ := Aside0.mk ((by rw [hg];exact (below_size (by repeat (first|(with_reducible first|exact HB.out|apply below_alloc|apply pw_below_drewN|apply below_drew1)|exact HB.out))) : w.heap.size ≤ gb314));have n3_ := Aside0.mk ((by rw [hg];exact (below_size (by repeat (first|(with_reducible first|exact HB.out|apply below_alloc|apply pw_below_drewN|apply below_drew1)|exact HB.out))) : w.heap.size ≤ gb314));clear HB;have HB := n0_;have BK314 := n1_;have GW314 := n2_;have GE314 := n3_;clear n0_ n1_ n2_ n3_;clear hb hbox hg)))
 go_loopg [7,8] k (fun kq v7 v8 w' => ∃ (x7_1 : List Int) (x8_1 : Int),v8 = .int .i64 x8_1 ∧ Aside0 (privitylaw43_cut.l0 kq a1 a2 x7_1 x8_1 a0_0 a0_1 a0_2 l0_3 a0_4 a0_5 l0_6 = some r) ∧ Aside0 (kq ≤ k) ∧ Aside0 (Kd.R (Kd.int .u64) 22 w' w.heap.size (fun _ => True) v7 x7_1) ∧ Aside0 (w'.heap[gb314]? = some (.cells #[.int .u64 a0_0,.int .i64 a0_1,.int .i64 a0_2,(.slice A0_3 l0_3.length c0_3),.int .u64 a0_4,.int .u64 a0_5,(.slice A0_6 l0_6.length c0_6)] 28 (0,0))) ∧ Aside0 (Below w.heap.size w w'))
 case atStart => exact ⟨(([] : List Int)),(a1),(by first|rfl|(simp;done)|(simp [*];done)),H',⟨Nat.le_refl _⟩,⟨by first|exact Kd.R_nil _ _ _ _ _|exact Kd.N_nil _ _ _ _ _|exact Kd.V_nil _ _ _ _ _|exact Kd.Q_nil _ _ _ _ _|exact Kd.S_nil _ _ _ _ _⟩,⟨by (with_reducible repeat (first|refine blk_drewN ?_ _|refine blk_drew ?_|refine blk_alloc ?_ _));exact BK314.out⟩,⟨by repeat (first|(with_reducible first|exact HB.out|apply below_alloc|apply pw_below_drewN|apply below_drew1|refine below_set ?_ GE314.out)|exact HB.out)⟩⟩
 case round =>
  clear H'
  try clear p2
  try clear c4
  obtain ⟨x7_1,x8_1,rfl,HA,HK1,HO_7,BK314,HB⟩ := hrel
  cases gk with
  | zero => exact absurd HA.out (by simp [privitylaw43_cut.l0])
  | succ k1 =>
   have H := HA.out
   clear HA
   simp only [privitylaw43_cut.l0] at H
   by_cases c5 : x8_1 < (wrap64 (a1 + a2))
   ·rw [if_pos c5] at H
    have c5b0 : decide (x8_1 < (wrap64 (a1 + a2))) = true := decide_eq_true c5
    clear c5
    by_cases c6 : x8_1 < (l0_6.length : Int)
    ·rw [if_pos c6] at H
     have c6b0 : decide (x8_1 < (l0_6.length : Int)) = true := decide_eq_true c6
     clear c6
     by_cases c7 : 0 ≤ x8_1
     ·rw [if_pos c7] at H
      have c7b0 : decide (0 ≤ x8_1) = true := decide_eq_true c7
      clear c7
      by_cases c8 : a0_0 = 0
      ·rw [if_pos c8] at H
       exact absurd H (by simp)
      ·rw [if_neg c8] at H
       have c8b0 : (a0_0 == 0) = false := beq_eq_false_iff_ne.mpr c8
       have c8b1 : (a0_0 != 0) = true := bne_iff_ne.mpr c8
       by_cases c9 : x7_1.length < 17592186044416
       ·rw [if_pos c9] at H
        have LMc9 := Aside0.mk c9
        clear c9
        obtain ⟨y316,hy316⟩ : ∃ y_ : List Int,y_ = (x7_1 ++ [Int.tmod (rd l0_6 x8_1) a0_0]) := ⟨_,rfl⟩
        replace H : (privitylaw43_cut.l0 k1 a1 a2 y316 (wrap64 (x8_1 + 1)) a0_0 a0_1 a0_2 l0_3 a0_4 a0_5 l0_6) = some r := by first|(rw [hy316];with_reducible exact H)|(have H2_ := (Option.bind_some _ _).symm.trans H;rw [hy316];with_reducible exact H2_)|(have H2_ := (Option.bind_some _ _).symm.trans H;with_reducible exact H2_)|with_reducible exact H|(rw [hy316];exact H)|exact H
        have Ny316 := Aside0.mk hy316
        clear hy316
        have H' := Aside0.mk H
        clear H
        have hcz10_0 : wr.cell? ⟨gb314,0,none⟩ = some (.int .u64 a0_0) := (blk_cell BK314.out 0).trans rfl
        have hcz10_1 : wr.cell? ⟨gb314,1,none⟩ = some (.int .i64 a0_1) := (blk_cell BK314.out 1).trans rfl
        have hcz10_2 : wr.cell? ⟨gb314,2,none⟩ = some (.int .i64 a0_2) := (blk_cell BK314.out 2).trans rfl
        have hcz10_3 : wr.cell? ⟨gb314,3,none⟩ = some (.slice A0_3 l0_3.length c0_3) := (blk_cell BK314.out 3).trans rfl
        have hcz10_4 : wr.cell? ⟨gb314,4,none⟩ = some (.int .u64 a0_4) := (blk_cell BK314.out 4).trans rfl
        have hcz10_5 : wr.cell? ⟨gb314,5,none⟩ = some (.int .u64 a0_5) := (blk_cell BK314.out 5).trans rfl
        have hcz10_6 : wr.cell? ⟨gb314,6,none⟩ = some (.slice A0_6 l0_6.length c0_6) := (blk_cell BK314.out 6).trans rfl
        have hfz10_0 := blk_frozen BK314.out 0
        have hfz10_1 := blk_frozen BK314.out 1
        have hfz10_2 := blk_frozen BK314.out 2
        have hfz10_3 := blk_frozen BK314.out 3
        have hfz10_4 := blk_frozen BK314.out 4
        have hfz10_5 := blk_frozen BK314.out 5
        have hfz10_6 := blk_frozen BK314.out 6
        have p315 : 0 ≤ (x8_1 : Int) := of_decide_eq_true (by first|(with_reducible assumption)|assumption)
        have q315 : x8_1 < (l0_6.length : Int) := of_decide_eq_true (by first|(with_reducible assumption)|assumption)
        obtain ⟨ad315,e315,hx315_0⟩ := Kd.at_int HR0_6.out x8_1 p315 q315
        cases e315
        replace hx315_0 := (HB.out.cell (World.block_lt_of_cell? w _ hx315_0)).trans hx315_0
        replace p315 := eq_true p315
        replace q315 := eq_true q315
        go_wp2_with (first|((with_reducible refine gate_builtin (b := .append) (xs := #[.tmp 32,.tmp 34]) rfl ?_);at_builtin;refine Kd.R_append (Kd.int .u64) (w0 := w) w.heap.size rfl (.tmp 32) (.tmp 34) 26 22 (.int .u64 0) 8 rfl Try.underlying26 info22 rfl (by decide) (by omega) u7 x7_1 (Int.tmod (rd l0_6 x8_1) a0_0) [.int .u64 (Int.tmod (rd l0_6 x8_1) a0_0)] (fun _ => True) (fun _ => False) rfl rfl ?aP (fun _ hk => hk.elim) ?aF ?aO ?aB ?aS ?aL ?_;(case aP => exact rfl);(case aB => exact (by repeat (first|(with_reducible first|exact HB.out|apply below_alloc|apply pw_below_drewN|apply below_drew1|refine below_set ?_ GE314.out)|exact HB.out)));(case aF => exact (fun _ _ => trivial));(case aO => exact (by (with_reducible repeat (first|apply Kd.R_alloc|apply Kd.R_drewN|apply Kd.R_drew));exact HO_7.out));(case aS => exact (below_size (by repeat (first|(with_reducible first|exact HB.out|apply below_alloc|apply pw_below_drewN|apply below_drew1|refine below_set ?_ GE314.out)|exact HB.out))));(case aL => have := LMc9.out;omega);intro v317 w11 ho hb hg hat;rw [← Ny316.out] at ho;have n0_ := Aside0.mk (blk_grown (g := gb314) (o := .cells #[.int .u64 a0_0,.int .i64 a0_1,.int .i64 a0_2,.slice A0_3 l0_3.length c0_3,.int .u64 a0_4,.int .u64 a0_5,.slice (some ad315) l0_6.length c0_6] 28 (0,0)) (by (with_reducible repeat (first|refine blk_drewN ?_ _|refine blk_drew ?_|refine blk_alloc ?_ _));exact BK314.out) hg (Kd.R_ne HO_7.out BK314.out (by decide)));have n1_ := Aside0.mk (hb);have n2_ := Aside0.mk (ho);clear BK314;clear HB;clear HO_7;have BK314 := n0_;have HB := n1_;have HO318 := n2_;clear n0_ n1_ n2_;clear ho hb hg hat))
        repeat (go_quiet (first|((with_reducible refine gate_builtin (b := .append) (xs := #[.tmp 32,.tmp 34]) rfl ?_);at_builtin;refine Kd.R_append (Kd.int .u64) (w0 := w) w.heap.size rfl (.tmp 32) (.tmp 34) 26 22 (.int .u64 0) 8 rfl Try.underlying26 info22 rfl (by decide) (by omega) u7 x7_1 (Int.tmod (rd l0_6 x8_1) a0_0) [.int .u64 (Int.tmod (rd l0_6 x8_1) a0_0)] (fun _ => True) (fun _ => False) rfl rfl ?aP (fun _ hk => hk.elim) ?aF ?aO ?aB ?aS ?aL ?_;(case aP => exact rfl);(case aB => exact (by repeat (first|(with_reducible first|exact HB.out|apply below_alloc|apply pw_below_drewN|apply below_drew1|refine below_set ?_ GE314.out)|exact HB.out)));(case aF => exact (fun _ _ => trivial));(case aO => exact (by (with_reducible repeat (first|apply Kd.R_alloc|apply Kd.R_drewN|apply Kd.R_drew));exact HO_7.out));(case aS => exact (below_size (by repeat (first|(with_reducible first|exact HB.out|apply below_alloc|apply pw_below_drewN|apply below_drew1|refine below_set ?_ GE314.out)|exact HB.out))));(case aL => have := LMc9.out;omega);intro v317 w11 ho hb hg hat;rw [← Ny316.out] at ho;have n0_ := Aside0.mk (blk_grown (g := gb314) (o := .cells #[.int .u64 a0_0,.int .i64 a0_1,.int .i64 a0_2,.slice A0_3 l0_3.length c0_3,.int .u64 a0_4,.int .u64 a0_5,.slice (some ad315) l0_6.length c0_6] 28 (0,0)) (by (with_reducible repeat (first|refine blk_drewN ?_ _|refine blk_drew ?_|refine blk_alloc ?_ _));exact BK314.out) hg (Kd.R_ne HO_7.out BK314.out (by decide)));have n1_ := Aside0.mk (hb);have n2_ := Aside0.mk (ho);clear BK314;clear HB;clear HO_7;have BK314 := n0_;have HB := n1_;have HO318 := n2_;clear n0_ n1_ n2_;clear ho hb hg hat));try go_wp2_with (first|((with_reducible refine gate_builtin (b := .append) (xs := #[.tmp 32,.tmp 34]) rfl ?_);at_builtin;refine Kd.R_append (Kd.int .u64) (w0 := w) w.heap.size rfl (.tmp 32) (.tmp 34) 26 22 (.int .u64 0) 8 rfl Try.underlying26 info22 rfl (by decide) (by omega) u7 x7_1 (Int.tmod (rd l0_6 x8_1) a0_0) [.int .u64 (Int.tmod (rd l0_6 x8_1) a0_0)] (fun _ => True) (fun _ => False) rfl rfl ?aP (fun _ hk => hk.elim) ?aF ?aO ?aB ?aS ?aL ?_;(case aP => exact rfl);(case aB => exact (by repeat (first|(with_reducible first|exact HB.out|apply below_alloc|apply pw_below_drewN|apply below_drew1|refine below_set ?_ GE314.out)|exact HB.out)));(case aF => exact (fun _ _ => trivial));(case aO => exact (by (with_reducible repeat (first|apply Kd.R_alloc|apply Kd.R_drewN|apply Kd.R_drew));exact HO_7.out));(case aS => exact (below_size (by repeat (first|(with_reducible first|exact HB.out|apply below_alloc|apply pw_below_drewN|apply below_drew1|refine below_set ?_ GE314.out)|exact HB.out))));(case aL => have := LMc9.out;omega);intro v317 w11 ho hb hg hat;rw [← Ny316.out] at ho;have n0_ := Aside0.mk (blk_grown (g := gb314) (o := .cells #[.int .u64 a0_0,.int .i64 a0_1,.int .i64 a0_2,.slice A0_3 l0_3.length c0_3,.int .u64 a0_4,.int .u64 a0_5,.slice (some ad315) l0_6.length c0_6] 28 (0,0)) (by (with_reducible repeat (first|refine blk_drewN ?_ _|refine blk_drew ?_|refine blk_alloc ?_ _));exact BK314.out) hg (Kd.R_ne HO_7.out BK314.out (by decide)));have n1_ := Aside0.mk (hb);have n2_ := Aside0.mk (ho);clear BK314;clear HB;clear HO_7;have BK314 := n0_;have HB := n1_;have HO318 := n2_;clear n0_ n1_ n2_;clear ho hb hg hat)))
        go_roundg k1
        case measure => have := HK1.out;omega
        case rel => exact ⟨(y316),(wrap64 (x8_1 + 1)),(by first|rfl|(simp;done)|(simp [*];done)),H',⟨by have := HK1.out;omega⟩,⟨by (with_reducible repeat (first|apply Kd.R_alloc|apply Kd.R_drewN|apply Kd.R_drew));exact HO318.out⟩,⟨by (with_reducible repeat (first|refine blk_drewN ?_ _|refine blk_drew ?_|refine blk_alloc ?_ _));exact BK314.out⟩,⟨by repeat (first|(with_reducible first|exact HB.out|apply below_alloc|apply pw_below_drewN|apply below_drew1|refine below_set ?_ GE314.out)|exact HB.out)⟩⟩
       ·rw [if_neg c9] at H
        exact absurd H (by simp)
     ·rw [if_neg c7] at H
      exact absurd H (by simp)
    ·rw [if_neg c6] at H
     have c6b0 : decide (x8_1 < (l0_6.length : Int)) = false := decide_eq_false c6
     clear c6
     by_cases c12 : x7_1.length < 17592186044416
     ·rw [if_pos c12] at H
      have LMc12 := Aside0.mk c12
      clear c12
      obtain ⟨y319,hy319⟩ : ∃ y_ : List Int,y_ = (x7_1 ++ [0]) := ⟨_,rfl⟩
      replace H : (privitylaw43_cut.l0 k1 a1 a2 y319 (wrap64 (x8_1 + 1)) a0_0 a0_1 a0_2 l0_3 a0_4 a0_5 l0_6) = some r := by first|(rw [hy319];with_reducible exact H)|(have H2_ := (Option.bind_some _ _).symm.trans H;rw [hy319];with_reducible exact H2_)|(have H2_ := (Option.bind_some _ _).symm.trans H;with_reducible exact H2_)|with_reducible exact H|(rw [hy319];exact H)|exact H
      have Ny319 := Aside0.mk hy319
      clear hy319
      have H' := Aside0.mk H
      clear H
      have hcz13_0 : wr.cell? ⟨gb314,0,none⟩ = some (.int .u64 a0_0) := (blk_cell BK314.out 0).trans rfl
      have hcz13_1 : wr.cell? ⟨gb314,1,none⟩ = some (.int .i64 a0_1) := (blk_cell BK314.out 1).trans rfl
      have hcz13_2 : wr.cell? ⟨gb314,2,none⟩ = some (.int .i64 a0_2) := (blk_cell BK314.out 2).trans rfl
      have hcz13_3 : wr.cell? ⟨gb314,3,none⟩ = some (.slice A0_3 l0_3.length c0_3) := (blk_cell BK314.out 3).trans rfl
      have hcz13_4 : wr.cell? ⟨gb314,4,none⟩ = some (.int .u64 a0_4) := (blk_cell BK314.out 4).trans rfl
      have hcz13_5 : wr.cell? ⟨gb314,5,none⟩ = some (.int .u64 a0_5) := (blk_cell BK314.out 5).trans rfl
      have hcz13_6 : wr.cell? ⟨gb314,6,none⟩ = some (.slice A0_6 l0_6.length c0_6) := (blk_cell BK314.out 6).trans rfl
      have hfz13_0 := blk_frozen BK314.out 0
      have hfz13_1 := blk_frozen BK314.out 1
      have hfz13_2 := blk_frozen BK314.out 2
      have hfz13_3 := blk_frozen BK314.out 3
      have hfz13_4 := blk_frozen BK314.out 4
      have hfz13_5 := blk_frozen BK314.out 5
      have hfz13_6 := blk_frozen BK314.out 6
      go_wp2_with (first|((with_reducible refine gate_builtin (b := .append) (xs := #[.tmp 32,.tmp 34]) rfl ?_);at_builtin;refine Kd.R_append (Kd.int .u64) (w0 := w) w.heap.size rfl (.tmp 32) (.tmp 34) 26 22 (.int .u64 0) 8 rfl Try.underlying26 info22 rfl (by decide) (by omega) u7 x7_1 0 [.int .u64 0] (fun _ => True) (fun _ => False) rfl rfl ?aP (fun _ hk => hk.elim) ?aF ?aO ?aB ?aS ?aL ?_;(case aP => exact rfl);(case aB => exact (by repeat (first|(with_reducible first|exact HB.out|apply below_alloc|apply pw_below_drewN|apply below_drew1|refine below_set ?_ GE314.out)|exact HB.out)));(case aF => exact (fun _ _ => trivial));(case aO => exact (by (with_reducible repeat (first|apply Kd.R_alloc|apply Kd.R_drewN|apply Kd.R_drew));exact HO_7.out));(case aS => exact (below_size (by repeat (first|(with_reducible first|exact HB.out|apply below_alloc|apply pw_below_drewN|apply below_drew1|refine below_set ?_ GE314.out)|exact HB.out))));(case aL => have := LMc12.out;omega);intro v320 w14 ho hb hg hat;rw [← Ny319.out] at ho;have n0_ := Aside0.mk (blk_grown (g := gb314) (o := .cells #[.int .u64 a0_0,.int .i64 a0_1,.int .i64 a0_2,.slice A0_3 l0_3.length c0_3,.int .u64 a0_4,.int .u64 a0_5,.slice A0_6 l0_6.length c0_6] 28 (0,0)) (by (with_reducible repeat (first|refine blk_drewN ?_ _|refine blk_drew ?_|refine blk_alloc ?_ _));exact BK314.out) hg (Kd.R_ne HO_7.out BK314.out (by decide)));have n1_ := Aside0.mk (hb);have n2_ := Aside0.mk (ho);clear BK314;clear HB;clear HO_7;have BK314 := n0_;have HB := n1_;have HO321 := n2_;clear n0_ n1_ n2_;clear ho hb hg hat))
      repeat (go_quiet (first|((with_reducible refine gate_builtin (b := .append) (xs := #[.tmp 32,.tmp 34]) rfl ?_);at_builtin;refine Kd.R_append (Kd.int .u64) (w0 := w) w.heap.size rfl (.tmp 32) (.tmp 34) 26 22 (.int .u64 0) 8 rfl Try.underlying26 info22 rfl (by decide) (by omega) u7 x7_1 0 [.int .u64 0] (fun _ => True) (fun _ => False) rfl rfl ?aP (fun _ hk => hk.elim) ?aF ?aO ?aB ?aS ?aL ?_;(case aP => exact rfl);(case aB => exact (by repeat (first|(with_reducible first|exact HB.out|apply below_alloc|apply pw_below_drewN|apply below_drew1|refine below_set ?_ GE314.out)|exact HB.out)));(case aF => exact (fun _ _ => trivial));(case aO => exact (by (with_reducible repeat (first|apply Kd.R_alloc|apply Kd.R_drewN|apply Kd.R_drew));exact HO_7.out));(case aS => exact (below_size (by repeat (first|(with_reducible first|exact HB.out|apply below_alloc|apply pw_below_drewN|apply below_drew1|refine below_set ?_ GE314.out)|exact HB.out))));(case aL => have := LMc12.out;omega);intro v320 w14 ho hb hg hat;rw [← Ny319.out] at ho;have n0_ := Aside0.mk (blk_grown (g := gb314) (o := .cells #[.int .u64 a0_0,.int .i64 a0_1,.int .i64 a0_2,.slice A0_3 l0_3.length c0_3,.int .u64 a0_4,.int .u64 a0_5,.slice A0_6 l0_6.length c0_6] 28 (0,0)) (by (with_reducible repeat (first|refine blk_drewN ?_ _|refine blk_drew ?_|refine blk_alloc ?_ _));exact BK314.out) hg (Kd.R_ne HO_7.out BK314.out (by decide)));have n1_ := Aside0.mk (hb);have n2_ := Aside0.mk (ho);clear BK314;clear HB;clear HO_7;have BK314 := n0_;have HB := n1_;have HO321 := n2_;clear n0_ n1_ n2_;clear ho hb hg hat));try go_wp2_with (first|((with_reducible refine gate_builtin (b := .append) (xs := #[.tmp 32,.tmp 34]) rfl ?_);at_builtin;refine Kd.R_append (Kd.int .u64) (w0 := w) w.heap.size rfl (.tmp 32) (.tmp 34) 26 22 (.int .u64 0) 8 rfl Try.underlying26 info22 rfl (by decide) (by omega) u7 x7_1 0 [.int .u64 0] (fun _ => True) (fun _ => False) rfl rfl ?aP (fun _ hk => hk.elim) ?aF ?aO ?aB ?aS ?aL ?_;(case aP => exact rfl);(case aB => exact (by repeat (first|(with_reducible first|exact HB.out|apply below_alloc|apply pw_below_drewN|apply below_drew1|refine below_set ?_ GE314.out)|exact HB.out)));(case aF => exact (fun _ _ => trivial));(case aO => exact (by (with_reducible repeat (first|apply Kd.R_alloc|apply Kd.R_drewN|apply Kd.R_drew));exact HO_7.out));(case aS => exact (below_size (by repeat (first|(with_reducible first|exact HB.out|apply below_alloc|apply pw_below_drewN|apply below_drew1|refine below_set ?_ GE314.out)|exact HB.out))));(case aL => have := LMc12.out;omega);intro v320 w14 ho hb hg hat;rw [← Ny319.out] at ho;have n0_ := Aside0.mk (blk_grown (g := gb314) (o := .cells #[.int .u64 a0_0,.int .i64 a0_1,.int .i64 a0_2,.slice A0_3 l0_3.length c0_3,.int .u64 a0_4,.int .u64 a0_5,.slice A0_6 l0_6.length c0_6] 28 (0,0)) (by (with_reducible repeat (first|refine blk_drewN ?_ _|refine blk_drew ?_|refine blk_alloc ?_ _));exact BK314.out) hg (Kd.R_ne HO_7.out BK314.out (by decide)));have n1_ := Aside0.mk (hb);have n2_ := Aside0.mk (ho);clear BK314;clear HB;clear HO_7;have BK314 := n0_;have HB := n1_;have HO321 := n2_;clear n0_ n1_ n2_;clear ho hb hg hat)))
      go_roundg k1
      case measure => have := HK1.out;omega
      case rel => exact ⟨(y319),(wrap64 (x8_1 + 1)),(by first|rfl|(simp;done)|(simp [*];done)),H',⟨by have := HK1.out;omega⟩,⟨by (with_reducible repeat (first|apply Kd.R_alloc|apply Kd.R_drewN|apply Kd.R_drew));exact HO321.out⟩,⟨by (with_reducible repeat (first|refine blk_drewN ?_ _|refine blk_drew ?_|refine blk_alloc ?_ _));exact BK314.out⟩,⟨by repeat (first|(with_reducible first|exact HB.out|apply below_alloc|apply pw_below_drewN|apply below_drew1|refine below_set ?_ GE314.out)|exact HB.out)⟩⟩
     ·rw [if_neg c12] at H
      exact absurd H (by simp)
   ·rw [if_neg c5] at H
    have c5b0 : decide (x8_1 < (wrap64 (a1 + a2))) = false := decide_eq_false c5
    clear c5
    obtain rfl := Option.some.inj H
    go_wp2
    repeat (go_quiet (fail);try go_wp2)
    go_ret
    exact ⟨_,by first|rfl|(simp [errW_none,errW_some] <;> rfl)|(simp [*,errW_none,errW_some] <;> rfl),by (with_reducible repeat (first|apply Kd.R_alloc|apply Kd.R_drewN|apply Kd.R_drew));exact HO_7.out,by repeat (first|(with_reducible first|exact HB.out|apply below_alloc|apply pw_below_drewN|apply below_drew1|refine below_set ?_ GE314.out)|exact HB.out)⟩
/-! ### privitylaw43_one: function 14 -/
def privitylaw43_one.f (k : Nat) (a0_0 : Int) (a0_1 : Int) (a0_2 : Int) (l0_3 : List Int) (a0_4 : Int) (a0_5 : Int) (l0_6 : List Int) : Option (List Int × List Int) := (privitylaw43_cut.f k a0_0 a0_1 a0_2 l0_3 a0_4 a0_5 l0_6 0 (wrap64 (a0_2 + 1))).bind fun t323 => ((privitylaw43_cut.f k a0_0 a0_1 a0_2 l0_3 a0_4 a0_5 l0_6 (wrap64 (a0_2 + 1)) (wrap64 (Int.tdiv (wrap64 (a0_2 * (wrap64 (a0_2 + 1)))) 2))).bind fun t326 => (some (t323, t326)))
theorem privitylaw43_one.mono : ∀ a0 a1 a2 a3 a4 a5 a6 k, LeO (privitylaw43_one.f k a0 a1 a2 a3 a4 a5 a6) (privitylaw43_one.f (k + 1) a0 a1 a2 a3 a4 a5 a6) := by
 intro a0 a1 a2 a3 a4 a5 a6 k
 unfold privitylaw43_one.f
 repeat' first
   | (with_reducible exact privitylaw43_cut.mono _ _ _ _ _ _ _ _ _ _)
   | (with_reducible exact LeO.refl _)
   | (with_reducible exact LeO.none _)
   | (with_reducible refine LeO.ite ?_ ?_)
   | (with_reducible refine LeO.bind ?_ (fun _ => ?_))
   | exact privitylaw43_cut.mono _ _ _ _ _ _ _ _ _ _
   | exact LeO.none _
   | refine LeO.ite ?_ ?_
   | refine LeO.bind ?_ (fun _ => ?_)
def privitylaw43_one.T2 : Bool × List (List Nat × List Nat) := (true, [([], []), ([], []), ([1], [1]), ([0, 2], [0, 2]), ([], []), ([], []), ([5], [5]), ([], []), ([], []), ([8], [8]), ([7, 9], [7, 9]), ([10], [10]), ([4, 6, 11, 3], [4, 6, 11]), ([3, 12, 0, 1, 2, 3], [3]), ([12, 13, 0, 1, 2, 3, 4, 5, 6, 7, 8, 9, 10, 11, 12, 13], [12])])
def privitylaw43_one.B2 : List Nat := [0, 0, 2, 7, 0, 0, 32, 0, 0, 256, 896, 1920, 4095, 8191, 16383]
theorem privitylaw43_one.tab2 : rtab .any (opsOf Try.f14 2) = privitylaw43_one.T2 := by kernel_rfl
theorem privitylaw43_one.bits2 : waitsOk privitylaw43_one.T2.2 privitylaw43_one.B2 = true := by kernel_rfl
set_option maxHeartbeats 8000000 in
set_option maxRecDepth 100000 in
theorem privitylaw43_one.calls (k : Nat) (a0_0 : Int) (a0_1 : Int) (a0_2 : Int) (A0_3 : Option Addr) (c0_3 : Nat) (l0_3 : List Int) (a0_4 : Int) (a0_5 : Int) (A0_6 : Option Addr) (c0_6 : Nat) (l0_6 : List Int) (r1 : List Int) (r2 : List Int) (w : World) (hr0_3 : Kd.C (Kd.int .i64) w A0_3 l0_3.length l0_3) (hc0_3 : l0_3.length ≤ c0_3) (hr0_6 : Kd.C (Kd.int .u64) w A0_6 l0_6.length l0_6) (hc0_6 : l0_6.length ≤ c0_6) (h : privitylaw43_one.f k a0_0 a0_1 a0_2 l0_3 a0_4 a0_5 l0_6 = some (r1, r2)) :
  Calls Try.prog 14 #[.agg #[.int .u64 a0_0,.int .i64 a0_1,.int .i64 a0_2,.slice A0_3 l0_3.length c0_3,.int .u64 a0_4,.int .u64 a0_5,.slice A0_6 l0_6.length c0_6]] w fun e w' => ∃ v0_ v1_ : Value,e = .returned (.tuple #[v0_,v1_]) ∧ Kd.R (Kd.int .u64) 22 w' w.heap.size (fun k_ => some k_ ≠ (v1_ : Value).ownBlock) v0_ r1 ∧ Kd.R (Kd.int .u64) 22 w' w.heap.size (fun k_ => some k_ ≠ (v0_ : Value).ownBlock) v1_ r2 ∧ Below w.heap.size w w' := by
 have hu28 := Try.underlying28
 have HR0_3 := Aside0.mk hr0_3
 have HC0_3 := Aside0.mk hc0_3
 clear hr0_3 hc0_3
 have HR0_6 := Aside0.mk hr0_6
 have HC0_6 := Aside0.mk hc0_6
 clear hr0_6 hc0_6
 have HB := Aside0.mk (Below.refl w.heap.size w)
 have H : ((privitylaw43_cut.f k a0_0 a0_1 a0_2 l0_3 a0_4 a0_5 l0_6 0 (wrap64 (a0_2 + 1))).bind fun t323 => ((privitylaw43_cut.f k a0_0 a0_1 a0_2 l0_3 a0_4 a0_5 l0_6 (wrap64 (a0_2 + 1)) (wrap64 (Int.tdiv (wrap64 (a0_2 * (wrap64 (a0_2 + 1)))) 2))).bind fun t326 => (some (t323,t326)))) = some (r1,r2) := h
 clear h
 replace H := Option.bind_eq_some_iff.mp H
 obtain ⟨t323,A20,H⟩ := H
 replace H : ((privitylaw43_cut.f k a0_0 a0_1 a0_2 l0_3 a0_4 a0_5 l0_6 (wrap64 (a0_2 + 1)) (wrap64 (Int.tdiv (wrap64 (a0_2 * (wrap64 (a0_2 + 1)))) 2))).bind fun t326 => (some (t323,t326))) = some (r1,r2) := H
 have A2 := Aside0.mk A20
 clear A20
 replace H := Option.bind_eq_some_iff.mp H
 obtain ⟨t326,A30,H⟩ := H
 replace H : (some (t323,t326)) = some (r1,r2) := H
 have A3 := Aside0.mk A30
 clear A30
 simp only [Option.some.injEq,Prod.mk.injEq] at H
 obtain ⟨rfl,rfl⟩ := H
 go_enter Try.func14,Try.ntmps14
 try go_wp2_with (first|((with_reducible refine gate_dst (N := 1) rfl ?_);refine box_event ?hg (N := 1) ?hd (cs := #[.int .u64 a0_0,.int .i64 a0_1,.int .i64 a0_2,.slice A0_3 l0_3.length c0_3,.int .u64 a0_4,.int .u64 a0_5,.slice A0_6 l0_6.length c0_6]) (t := 28) ?hr ?_;(case hd => rfl);(case hg => rfl);(case hr => first|(go_simp;done)|(go_simp;rfl));intro gb322 hg w4 hbox hb;have n0_ := Aside0.mk (below_step (by repeat (first|(with_reducible first|exact HB.out|apply below_alloc|apply pw_below_drewN|apply below_drew1)|exact HB.out)) hb);have n1_ := Aside0.mk (hbox);have n2_ := Aside0.mk ((by rw [hg];exact (below_size (by repeat (first|(with_reducible first|exact HB.out|apply below_alloc|apply pw_below_drewN|apply below_drew1)|exact HB.out))) : w.heap.size ≤ gb322));have n3_ := Aside0.mk ((by rw [hg];exact (below_size (by repeat (first|(with_reducible first|exact HB.out|apply below_alloc|apply pw_below_drewN|apply below_drew1)|exact HB.out))) : w.heap.size ≤ gb322));clear HB;have HB := n0_;have BK322 := n1_;have GW322 := n2_;have GE322 := n3_;clear n0_ n1_ n2_ n3_;clear hb hbox hg;have hcz5_0 : w4.cell? ⟨gb322,0,none⟩ = some (.int .u64 a0_0) := (blk_cell BK322.out 0).trans rfl;have hcz5_1 : w4.cell? ⟨gb322,1,none⟩ = some (.int .i64 a0_1) := (blk_cell BK322.out 1).trans rfl;have hcz5_2 : w4.cell? ⟨gb322,2,none⟩ = some (.int .i64 a0_2) := (blk_cell BK322.out 2).trans rfl;have hcz5_3 : w4.cell? ⟨gb322,3,none⟩ = some (.slice A0_3 l0_3.length c0_3) := (blk_cell BK322.out 3).trans rfl;have hcz5_4 : w4.cell? ⟨gb322,4,none⟩ = some (.int .u64 a0_4) := (blk_cell BK322.out 4).trans rfl;have hcz5_5 : w4.cell? ⟨gb322,5,none⟩ = some (.int .u64 a0_5) := (blk_cell BK322.out 5).trans rfl;have hcz5_6 : w4.cell? ⟨gb322,6,none⟩ = some (.slice A0_6 l0_6.length c0_6) := (blk_cell BK322.out 6).trans rfl;have hfz5_0 := blk_frozen BK322.out 0;have hfz5_1 := blk_frozen BK322.out 1;have hfz5_2 := blk_frozen BK322.out 2;have hfz5_3 := blk_frozen BK322.out 3;have hfz5_4 := blk_frozen BK322.out 4;have hfz5_5 := blk_frozen BK322.out 5;have hfz5_6 := blk_frozen BK322.out 6))
 have n0_ := Aside0.mk (blk_drew BK322.out)
 have n1_ := Aside0.mk (below_drew1 HB.out)
 clear BK322
 clear HB
 have BK322 := n0_
 have HB := n1_
 clear n0_ n1_
 refine start_ (n := 15) (S := fun w' => w'.cell? ⟨gb322,0,none⟩ = some (.int .u64 a0_0) ∧ w'.cell? ⟨gb322,1,none⟩ = some (.int .i64 a0_1) ∧ w'.cell? ⟨gb322,2,none⟩ = some (.int .i64 a0_2) ∧ w'.cell? ⟨gb322,3,none⟩ = some (.slice A0_3 l0_3.length c0_3) ∧ w'.cell? ⟨gb322,4,none⟩ = some (.int .u64 a0_4) ∧ w'.cell? ⟨gb322,5,none⟩ = some (.int .u64 a0_5) ∧ w'.cell? ⟨gb322,6,none⟩ = some (.slice A0_6 l0_6.length c0_6)) (ds := []) #[false,false,false,false,false,false,false,false,false,false,false,false,false,false,false] (by kernel_rfl) rfl rfl ⟨(blk_cell BK322.out 0).trans rfl,(blk_cell BK322.out 1).trans rfl,(blk_cell BK322.out 2).trans rfl,(blk_cell BK322.out 3).trans rfl,(blk_cell BK322.out 4).trans rfl,(blk_cell BK322.out 5).trans rfl,(blk_cell BK322.out 6).trans rfl⟩ (fun hHeld => ?_);refine with_tabW privitylaw43_one.tab2 privitylaw43_one.bits2 (fun HT_ HW_ => ?_)
 generalize w4.drew = w6 at BK322 HB hHeld ⊢
 refine pure_ (i := 1) (N := some 9) (v := ?_) (a' := ?_) #[false,true,false,false,false,false,false,false,false,false,false,false,false,false,false] rfl rfl (any_of HT_.out (by kernel_rfl)) (fun _ _ _ h => h) (Or.inl ⟨by rfl,?_⟩) ?_ ?_
 rotate_left
 ·intro w'
  go_simp
  with_reducible rfl
 rotate_left
 ·simp only [Act.put,List.setIfInBounds_toArray,List.set_cons_zero,List.set_cons_succ,i64_w,i32_w]
  rfl
 refine pure_ (i := 2) (N := some 10) (v := ?_) (a' := ?_) #[false,true,true,false,false,false,false,false,false,false,false,false,false,false,false] rfl rfl (any_of HT_.out (by kernel_rfl)) (fun _ _ _ h => h) (Or.inl ⟨by rfl,?_⟩) ?_ ?_
 rotate_left
 ·intro w'
  go_simp
  with_reducible rfl
 rotate_left
 ·simp only [Act.put,List.setIfInBounds_toArray,List.set_cons_zero,List.set_cons_succ,i64_w,i32_w]
  rfl
 refine pure_ (i := 5) (N := some 13) (v := ?_) (a' := ?_) #[false,true,true,false,false,true,false,false,false,false,false,false,false,false,false] rfl rfl (any_of HT_.out (by kernel_rfl)) (fun _ _ _ h => h) (Or.inl ⟨by rfl,?_⟩) ?_ ?_
 rotate_left
 ·intro w'
  go_simp
  with_reducible rfl
 rotate_left
 ·simp only [Act.put,List.setIfInBounds_toArray,List.set_cons_zero,List.set_cons_succ,i64_w,i32_w]
  rfl
 refine pure_ (i := 6) (N := some 14) (v := ?_) (a' := ?_) #[false,true,true,false,false,true,true,false,false,false,false,false,false,false,false] rfl rfl (any_of HT_.out (by kernel_rfl)) (fun _ _ _ h => h) (Or.inl ⟨by rfl,?_⟩) ?_ ?_
 rotate_left
 ·intro w'
  go_simp
  with_reducible rfl
 rotate_left
 ·simp only [Act.put,List.setIfInBounds_toArray,List.set_cons_zero,List.set_cons_succ,i64_w,i32_w]
  rfl
 refine pure_ (i := 7) (N := some 15) (v := ?_) (a' := ?_) #[false,true,true,false,false,true,true,true,false,false,false,false,false,false,false] rfl rfl (any_of HT_.out (by kernel_rfl)) (fun _ _ _ h => h) (Or.inl ⟨by rfl,?_⟩) ?_ ?_
 rotate_left
 ·intro w'
  go_simp
  with_reducible rfl
 rotate_left
 ·simp only [Act.put,List.setIfInBounds_toArray,List.set_cons_zero,List.set_cons_succ,i64_w,i32_w]
  rfl
 refine pure_ (i := 8) (N := some 16) (v := ?_) (a' := ?_) #[false,true,true,false,false,true,true,true,true,false,false,false,false,false,false] rfl rfl (any_of HT_.out (by kernel_rfl)) (fun _ _ _ h => h) (Or.inl ⟨by rfl,?_⟩) ?_ ?_
 rotate_left
 ·intro w'
  go_simp
  with_reducible rfl
 rotate_left
 ·simp only [Act.put,List.setIfInBounds_toArray,List.set_cons_zero,List.set_cons_succ,i64_w,i32_w]
  rfl
 refine pure_ (i := 9) (N := some 17) (v := ?_) (a' := ?_) #[false,true,true,false,false,true,true,true,true,true,false,false,false,false,false] rfl rfl (any_of HT_.out (by kernel_rfl)) (fun _ _ _ h => h) (Or.inl ⟨by rfl,?_⟩) ?_ ?_
 rotate_left
 ·intro w'
  go_simp
  with_reducible rfl
 rotate_left
 ·simp only [Act.put,List.setIfInBounds_toArray,List.set_cons_zero,List.set_cons_succ,i64_w,i32_w]
  rfl
 refine pure_ (i := 10) (N := some 18) (v := ?_) (a' := ?_) #[false,true,true,false,false,true,true,true,true,true,true,false,false,false,false] rfl rfl (any_of HT_.out (by kernel_rfl)) (fun _ _ _ h => h) (Or.inl ⟨by rfl,?_⟩) ?_ ?_
 rotate_left
 ·intro w'
  go_simp
  with_reducible rfl
 rotate_left
 ·simp only [Act.put,List.setIfInBounds_toArray,List.set_cons_zero,List.set_cons_succ,i64_w,i32_w]
  rfl
 refine pure_ (i := 11) (N := some 19) (v := ?_) (a' := ?_) #[false,true,true,false,false,true,true,true,true,true,true,true,false,false,false] rfl rfl (any_of HT_.out (by kernel_rfl)) (fun _ _ _ h => h) (Or.inl ⟨by rfl,?_⟩) ?_ ?_
 rotate_left
 ·intro w'
  go_simp
  with_reducible rfl
 rotate_left
 ·simp only [Act.put,List.setIfInBounds_toArray,List.set_cons_zero,List.set_cons_succ,i64_w,i32_w]
  rfl
 refine take_ (i := 0) (N := some 8) (v := ?_) (a' := ?_) #[true,true,true,false,false,true,true,true,true,true,true,true,false,false,false] rfl rfl (take_ofW HT_.out HW_.out (by kernel_rfl)) (fun _ _ _ h => h) (Or.inl ⟨by rfl,?_⟩) hHeld ?_ ?_
 rotate_left
 ·rintro w' ⟨s0,s1,s2,s3,s4,s5,s6⟩
  go_simp
  with_reducible rfl
 rotate_left
 ·simp only [Act.put,List.setIfInBounds_toArray,List.set_cons_zero,List.set_cons_succ,i64_w,i32_w]
  rfl
 refine take_ (i := 4) (N := some 12) (v := ?_) (a' := ?_) #[true,true,true,false,true,true,true,true,true,true,true,true,false,false,false] rfl rfl (take_ofW HT_.out HW_.out (by kernel_rfl)) (fun _ _ _ h => h) (Or.inl ⟨by rfl,?_⟩) hHeld ?_ ?_
 rotate_left
 ·rintro w' ⟨s0,s1,s2,s3,s4,s5,s6⟩
  go_simp
  with_reducible rfl
 rotate_left
 ·simp only [Act.put,List.setIfInBounds_toArray,List.set_cons_zero,List.set_cons_succ,i64_w,i32_w]
  rfl
 refine one_ (i := 3) (N := some 11) #[true,true,true,true,true,true,true,true,true,true,true,true,false,false,false] rfl rfl (one_of HT_.out (by kernel_rfl)) (by decide) (fun K hK => ?_)
 refine goes_ Try.func42 (by kernel_rfl) rfl #[.agg #[.int .u64 a0_0,.int .i64 a0_1,.int .i64 a0_2,.slice A0_3 l0_3.length c0_3,.int .u64 a0_4,.int .u64 a0_5,.slice A0_6 l0_6.length c0_6],.int .i64 0,.int .i64 (wrap64 (a0_2 + 1))] (by rfl) rfl rfl (by (try simp only [List.map_toArray,List.map_cons,List.map_nil]);first|done|rfl|(simp only [List.length_drop,List.length_take];rfl)) ?_
 with_reducible refine (privitylaw43_cut.calls k a0_0 a0_1 a0_2 _ _ l0_3 a0_4 a0_5 _ _ l0_6 0 (wrap64 (a0_2 + 1)) t323 _ ?side1 ?side2 ?side3 ?side4 A2.out).mono ?_
 (case side1 => repeat (first|exact (Kd.C_below HR0_3.out HB.out)|(with_reducible refine Kd.C_alloc ?_ _)|(with_reducible refine Kd.C_drewN ?_ _)|(with_reducible refine Kd.C_drew ?_)))
 (case side2 => exact HC0_3.out)
 (case side3 => repeat (first|exact (Kd.C_below HR0_6.out HB.out)|(with_reducible refine Kd.C_alloc ?_ _)|(with_reducible refine Kd.C_drewN ?_ _)|(with_reducible refine Kd.C_drew ?_)))
 (case side4 => exact HC0_6.out)
 rintro e w7 ⟨v324,rfl,ho0,hb⟩
 refine ⟨_,rfl,?_⟩
 have n0_ := Aside0.mk (Kd.R_lower ho0 (below_size (by repeat (first|(with_reducible first|exact HB.out|apply below_alloc|apply pw_below_drewN|apply below_drew1|refine below_set ?_ GE322.out)|exact HB.out))))
 have n1_ := Aside0.mk (blk_below (g := gb322) (o := .cells #[.int .u64 a0_0,.int .i64 a0_1,.int .i64 a0_2,.slice A0_3 l0_3.length c0_3,.int .u64 a0_4,.int .u64 a0_5,.slice A0_6 l0_6.length c0_6] 28 (0,0)) (by (with_reducible repeat (first|refine blk_drewN ?_ _|refine blk_drew ?_|refine blk_alloc ?_ _));exact BK322.out) hb)
 have n2_ := Aside0.mk (below_step (by repeat (first|(with_reducible first|exact HB.out|apply below_alloc|apply pw_below_drewN|apply below_drew1|refine below_set ?_ GE322.out)|exact HB.out)) hb)
 clear BK322
 clear HB
 have HO325 := n0_
 have BK322 := n1_
 have HB := n2_
 clear n0_ n1_ n2_
 (try clear hb)
 (try clear hb2)
 (try clear hk)
 (try clear hi)
 (try clear ho0)
 refine hK.out _ _ ⟨(blk_cell BK322.out 0).trans rfl,(blk_cell BK322.out 1).trans rfl,(blk_cell BK322.out 2).trans rfl,(blk_cell BK322.out 3).trans rfl,(blk_cell BK322.out 4).trans rfl,(blk_cell BK322.out 5).trans rfl,(blk_cell BK322.out 6).trans rfl⟩ (fun hHeld => ?_)
 clear hK K
 refine norm_ (a' := ?_) ?_ ?_
 rotate_left
 ·show Act.put _ (some 11) _ = _
  simp only [Act.put,List.setIfInBounds_toArray,List.set_cons_zero,List.set_cons_succ,i64_w,i32_w]
  rfl
 refine one_ (i := 12) (N := some 20) #[true,true,true,true,true,true,true,true,true,true,true,true,true,false,false] rfl rfl (one_of HT_.out (by kernel_rfl)) (by decide) (fun K hK => ?_)
 refine goes_ Try.func42 (by kernel_rfl) rfl #[.agg #[.int .u64 a0_0,.int .i64 a0_1,.int .i64 a0_2,.slice A0_3 l0_3.length c0_3,.int .u64 a0_4,.int .u64 a0_5,.slice A0_6 l0_6.length c0_6],.int .i64 (wrap64 (a0_2 + 1)),.int .i64 (wrap64 (Int.tdiv (wrap64 (a0_2 * (wrap64 (a0_2 + 1)))) 2))] (by rfl) rfl rfl (by (try simp only [List.map_toArray,List.map_cons,List.map_nil]);first|done|rfl|(simp only [List.length_drop,List.length_take];rfl)) ?_
 with_reducible refine (privitylaw43_cut.calls k a0_0 a0_1 a0_2 _ _ l0_3 a0_4 a0_5 _ _ l0_6 (wrap64 (a0_2 + 1)) (wrap64 (Int.tdiv (wrap64 (a0_2 * (wrap64 (a0_2 + 1)))) 2)) t326 _ ?side1 ?side2 ?side3 ?side4 A3.out).mono ?_
 (case side1 => repeat (first|exact (Kd.C_below HR0_3.out HB.out)|(with_reducible refine Kd.C_alloc ?_ _)|(with_reducible refine Kd.C_drewN ?_ _)|(with_reducible refine Kd.C_drew ?_)))
 (case side2 => exact HC0_3.out)
 (case side3 => repeat (first|exact (Kd.C_below HR0_6.out HB.out)|(with_reducible refine Kd.C_alloc ?_ _)|(with_reducible refine Kd.C_drewN ?_ _)|(with_reducible refine Kd.C_drew ?_)))
 (case side4 => exact HC0_6.out)
 rintro e w8 ⟨v327,rfl,ho0,hb⟩
 refine ⟨_,rfl,?_⟩
 have n0_ := Aside0.mk (Kd.R_elder' (by (with_reducible repeat (first|apply Kd.R_alloc|apply Kd.R_drewN|apply Kd.R_drew));exact HO325.out) (Kd.R_base ho0) hb)
 have n1_ := Aside0.mk (Kd.R_lower (Kd.R_new' ho0 (Kd.R_lt (by (with_reducible repeat (first|apply Kd.R_alloc|apply Kd.R_drewN|apply Kd.R_drew));exact HO325.out))) (below_size (by repeat (first|(with_reducible first|exact HB.out|apply below_alloc|apply pw_below_drewN|apply below_drew1|refine below_set ?_ GE322.out)|exact HB.out))))
 have n2_ := Aside0.mk (blk_below (g := gb322) (o := .cells #[.int .u64 a0_0,.int .i64 a0_1,.int .i64 a0_2,.slice A0_3 l0_3.length c0_3,.int .u64 a0_4,.int .u64 a0_5,.slice A0_6 l0_6.length c0_6] 28 (0,0)) (by (with_reducible repeat (first|refine blk_drewN ?_ _|refine blk_drew ?_|refine blk_alloc ?_ _));exact BK322.out) hb)
 have n3_ := Aside0.mk (below_step (by repeat (first|(with_reducible first|exact HB.out|apply below_alloc|apply pw_below_drewN|apply below_drew1|refine below_set ?_ GE322.out)|exact HB.out)) hb)
 clear HO325
 clear BK322
 clear HB
 have HO325 := n0_
 have HO328 := n1_
 have BK322 := n2_
 have HB := n3_
 clear n0_ n1_ n2_ n3_
 (try clear hb)
 (try clear hb2)
 (try clear hk)
 (try clear hi)
 (try clear ho0)
 refine hK.out _ _ ⟨(blk_cell BK322.out 0).trans rfl,(blk_cell BK322.out 1).trans rfl,(blk_cell BK322.out 2).trans rfl,(blk_cell BK322.out 3).trans rfl,(blk_cell BK322.out 4).trans rfl,(blk_cell BK322.out 5).trans rfl,(blk_cell BK322.out 6).trans rfl⟩ (fun hHeld => ?_)
 clear hK K
 refine norm_ (a' := ?_) ?_ ?_
 rotate_left
 ·show Act.put _ (some 20) _ = _
  simp only [Act.put,List.setIfInBounds_toArray,List.set_cons_zero,List.set_cons_succ,i64_w,i32_w]
  rfl
 refine pure_ (i := 13) (N := some 2) (v := ?_) (a' := ?_) #[true,true,true,true,true,true,true,true,true,true,true,true,true,true,false] rfl rfl (any_of HT_.out (by kernel_rfl)) (fun _ _ _ h => h) (Or.inl ⟨by rfl,?_⟩) ?_ ?_
 rotate_left
 ·intro w'
  go_simp
  with_reducible rfl
 rotate_left
 ·simp only [Act.put,List.setIfInBounds_toArray,List.set_cons_zero,List.set_cons_succ,i64_w,i32_w]
  rfl
 refine pure_ (i := 14) (N := some 3) (v := ?_) (a' := ?_) #[true,true,true,true,true,true,true,true,true,true,true,true,true,true,true] rfl rfl (any_of HT_.out (by kernel_rfl)) (fun _ _ _ h => h) (Or.inl ⟨by rfl,?_⟩) ?_ ?_
 rotate_left
 ·intro w'
  go_simp
  with_reducible rfl
 rotate_left
 ·simp only [Act.put,List.setIfInBounds_toArray,List.set_cons_zero,List.set_cons_succ,i64_w,i32_w]
  rfl
 refine done_ (done_of HT_.out (by kernel_rfl)) ?_
 try go_wp2
 go_ret2
 exact ⟨_,_,by first|rfl|(simp [errW_none,errW_some] <;> rfl)|(simp [*,errW_none,errW_some] <;> rfl),by (with_reducible repeat (first|apply Kd.R_alloc|apply Kd.R_drewN|apply Kd.R_drew));exact Kd.R_mono HO325.out (fun _ hk => hk.2),by (with_reducible repeat (first|apply Kd.R_alloc|apply Kd.R_drewN|apply Kd.R_drew));exact Kd.R_mono HO328.out (fun _ hk => hk.2),by repeat (first|(with_reducible first|exact HB.out|apply below_alloc|apply pw_below_drewN|apply below_drew1|refine below_set ?_ GE322.out)|exact HB.out)⟩
end Go.Proofs.Ytejeelpnmdfibaa.Pr
end
section
/- Printed by a program of this seat (the kit's printer, with the functions that were proved by hand given to it). What stands here: the functions that the statements reach, as plain functions, and that the Go code computes them. -/
namespace Go.Proofs.Ytejeelpnmdfibaa.Pr
open Go.RowKit Go.Proofs.YtejeelpnmdfibaaW.PrintWords Go.Proofs.YtejeelpnmdfibaaW.PrintLast Go.Proofs.YtejeelpnmdfibaaW.PrintMore
attribute [local go_sem] max2_int min2_int max_two min_two max_three min_three max_four min_four   -- for this text's walks alone
set_option linter.unusedVariables false
set_option linter.unusedSimpArgs false

open Go.Proofs.Ytejeelpnmdfibaa.Hw
/-! ### privitylaw43_triple: function 24 -/
def privitylaw43_triple.f (k : Nat) (a0_0 : Int) (a0_1 : Int) (a0_2 : Int) (l0_3 : List Int) (a0_4 : Int) (a0_5 : Int) (l0_6 : List Int) : Option (List Int × List Int) := (privitylaw43_cut.f k a0_0 a0_1 a0_2 l0_3 a0_4 a0_5 l0_6 0 (wrap64 ((wrap64 (2 * (wrap64 (a0_2 + 1)))) + (wrap64 (a0_2 * a0_2))))).bind fun t594 => ((privitylaw43_cut.f k a0_0 a0_1 a0_2 l0_3 a0_4 a0_5 l0_6 (wrap64 ((wrap64 (2 * (wrap64 (a0_2 + 1)))) + (wrap64 (a0_2 * a0_2)))) (wrap64 (Int.tdiv (wrap64 ((wrap64 ((wrap64 (a0_2 + 3)) * a0_2)) * (wrap64 (a0_2 + 1)))) 2))).bind fun t597 => (some (t594, t597)))
theorem privitylaw43_triple.mono : ∀ a0 a1 a2 a3 a4 a5 a6 k, LeO (privitylaw43_triple.f k a0 a1 a2 a3 a4 a5 a6) (privitylaw43_triple.f (k + 1) a0 a1 a2 a3 a4 a5 a6) := by
 intro a0 a1 a2 a3 a4 a5 a6 k
 unfold privitylaw43_triple.f
 repeat' first
   | (with_reducible exact privitylaw43_cut.mono _ _ _ _ _ _ _ _ _ _)
   | (with_reducible exact LeO.refl _)
   | (with_reducible exact LeO.none _)
   | (with_reducible refine LeO.ite ?_ ?_)
   | (with_reducible refine LeO.bind ?_ (fun _ => ?_))
   | exact privitylaw43_cut.mono _ _ _ _ _ _ _ _ _ _
   | exact LeO.none _
   | refine LeO.ite ?_ ?_
   | refine LeO.bind ?_ (fun _ => ?_)
def privitylaw43_triple.T3 : Bool × List (List Nat × List Nat) := (true, [([], []), ([], []), ([0, 1], [0, 1]), ([], []), ([], []), ([], []), ([5], [5]), ([], []), ([6, 7], [6, 7]), ([], []), ([9], [9]), ([8, 10], [8, 10]), ([11], [11]), ([3, 4, 12, 2], [3, 4, 12]), ([2, 13, 0, 1, 2], [2]), ([13, 14, 0, 1, 2, 3, 4, 5, 6, 7, 8, 9, 10, 11, 12, 13, 14], [13])])
def privitylaw43_triple.B3 : List Nat := [0, 0, 3, 0, 0, 0, 32, 0, 224, 0, 512, 2016, 4064, 8191, 16383, 32767]
theorem privitylaw43_triple.tab3 : rtab .any (opsOf Try.f24 3) = privitylaw43_triple.T3 := by kernel_rfl
theorem privitylaw43_triple.bits3 : waitsOk privitylaw43_triple.T3.2 privitylaw43_triple.B3 = true := by kernel_rfl
set_option maxHeartbeats 8000000 in
set_option maxRecDepth 100000 in
theorem privitylaw43_triple.calls (k : Nat) (a0_0 : Int) (a0_1 : Int) (a0_2 : Int) (A0_3 : Option Addr) (c0_3 : Nat) (l0_3 : List Int) (a0_4 : Int) (a0_5 : Int) (A0_6 : Option Addr) (c0_6 : Nat) (l0_6 : List Int) (r1 : List Int) (r2 : List Int) (w : World) (hr0_3 : Kd.C (Kd.int .i64) w A0_3 l0_3.length l0_3) (hc0_3 : l0_3.length ≤ c0_3) (hr0_6 : Kd.C (Kd.int .u64) w A0_6 l0_6.length l0_6) (hc0_6 : l0_6.length ≤ c0_6) (h : privitylaw43_triple.f k a0_0 a0_1 a0_2 l0_3 a0_4 a0_5 l0_6 = some (r1, r2)) :
  Calls Try.prog 24 #[.agg #[.int .u64 a0_0,.int .i64 a0_1,.int .i64 a0_2,.slice A0_3 l0_3.length c0_3,.int .u64 a0_4,.int .u64 a0_5,.slice A0_6 l0_6.length c0_6]] w fun e w' => ∃ v0_ v1_ : Value,e = .returned (.tuple #[v0_,v1_]) ∧ Kd.R (Kd.int .u64) 22 w' w.heap.size (fun k_ => some k_ ≠ (v1_ : Value).ownBlock) v0_ r1 ∧ Kd.R (Kd.int .u64) 22 w' w.heap.size (fun k_ => some k_ ≠ (v0_ : Value).ownBlock) v1_ r2 ∧ Below w.heap.size w w' := by
 have hu28 := Try.underlying28
 have HR0_3 := Aside0.mk hr0_3
 have HC0_3 := Aside0.mk hc0_3
 clear hr0_3 hc0_3
 have HR0_6 := Aside0.mk hr0_6
 have HC0_6 := Aside0.mk hc0_6
 clear hr0_6 hc0_6
 have HB := Aside0.mk (Below.refl w.heap.size w)
 have H : ((privitylaw43_cut.f k a0_0 a0_1 a0_2 l0_3 a0_4 a0_5 l0_6 0 (wrap64 ((wrap64 (2 * (wrap64 (a0_2 + 1)))) + (wrap64 (a0_2 * a0_2))))).bind fun t594 => ((privitylaw43_cut.f k a0_0 a0_1 a0_2 l0_3 a0_4 a0_5 l0_6 (wrap64 ((wrap64 (2 * (wrap64 (a0_2 + 1)))) + (wrap64 (a0_2 * a0_2)))) (wrap64 (Int.tdiv (wrap64 ((wrap64 ((wrap64 (a0_2 + 3)) * a0_2)) * (wrap64 (a0_2 + 1)))) 2))).bind fun t597 => (some (t594,t597)))) = some (r1,r2) := h
 clear h
 replace H := Option.bind_eq_some_iff.mp H
 obtain ⟨t594,A20,H⟩ := H
 replace H : ((privitylaw43_cut.f k a0_0 a0_1 a0_2 l0_3 a0_4 a0_5 l0_6 (wrap64 ((wrap64 (2 * (wrap64 (a0_2 + 1)))) + (wrap64 (a0_2 * a0_2)))) (wrap64 (Int.tdiv (wrap64 ((wrap64 ((wrap64 (a0_2 + 3)) * a0_2)) * (wrap64 (a0_2 + 1)))) 2))).bind fun t597 => (some (t594,t597))) = some (r1,r2) := H
 have A2 := Aside0.mk A20
 clear A20
 replace H := Option.bind_eq_some_iff.mp H
 obtain ⟨t597,A30,H⟩ := H
 replace H : (some (t594,t597)) = some (r1,r2) := H
 have A3 := Aside0.mk A30
 clear A30
 simp only [Option.some.injEq,Prod.mk.injEq] at H
 obtain ⟨rfl,rfl⟩ := H
 go_enter Try.func24,Try.ntmps24
 try go_wp2_with (first|((with_reducible refine gate_dst (N := 1) rfl ?_);refine box_event ?hg (N := 1) ?hd (cs := #[.int .u64 a0_0,.int .i64 a0_1,.int .i64 a0_2,.slice A0_3 l0_3.length c0_3,.int .u64 a0_4,.int .u64 a0_5,.slice A0_6 l0_6.length c0_6]) (t := 28) ?hr ?_;(case hd => rfl);(case hg => rfl);(case hr => first|(go_simp;done)|(go_simp;rfl));intro gb593 hg w4 hbox hb;have n0_ := Aside0.mk (below_step (by repeat (first|(with_reducible first|exact HB.out|apply below_alloc|apply pw_below_drewN|apply below_drew1)|exact HB.out)) hb);have n1_ := Aside0.mk (hbox);have n2_ := Aside0.mk ((by rw [hg];exact (below_size (by repeat (first|(with_reducible first|exact HB.out|apply below_alloc|apply pw_below_drewN|apply below_drew1)|exact HB.out))) : w.heap.size ≤ gb593));have n3_ := Aside0.mk ((by rw [hg];exact (below_size (by repeat (first|(with_reducible first|exact HB.out|apply below_alloc|apply pw_below_drewN|apply below_drew1)|exact HB.out))) : w.heap.size ≤ gb593));clear HB;have HB := n0_;have BK593 := n1_;have GW593 := n2_;have GE593 := n3_;clear n0_ n1_ n2_ n3_;clear hb hbox hg;have hcz5_0 : w4.cell? ⟨gb593,0,none⟩ = some (.int .u64 a0_0) := (blk_cell BK593.out 0).trans rfl;have hcz5_1 : w4.cell? ⟨gb593,1,none⟩ = some (.int .i64 a0_1) := (blk_cell BK593.out 1).trans rfl;have hcz5_2 : w4.cell? ⟨gb593,2,none⟩ = some (.int .i64 a0_2) := (blk_cell BK593.out 2).trans rfl;have hcz5_3 : w4.cell? ⟨gb593,3,none⟩ = some (.slice A0_3 l0_3.length c0_3) := (blk_cell BK593.out 3).trans rfl;have hcz5_4 : w4.cell? ⟨gb593,4,none⟩ = some (.int .u64 a0_4) := (blk_cell BK593.out 4).trans rfl;have hcz5_5 : w4.cell? ⟨gb593,5,none⟩ = some (.int .u64 a0_5) := (blk_cell BK593.out 5).trans rfl;have hcz5_6 : w4.cell? ⟨gb593,6,none⟩ = some (.slice A0_6 l0_6.length c0_6) := (blk_cell BK593.out 6).trans rfl;have hfz5_0 := blk_frozen BK593.out 0;have hfz5_1 := blk_frozen BK593.out 1;have hfz5_2 := blk_frozen BK593.out 2;have hfz5_3 := blk_frozen BK593.out 3;have hfz5_4 := blk_frozen BK593.out 4;have hfz5_5 := blk_frozen BK593.out 5;have hfz5_6 := blk_frozen BK593.out 6))
 have n0_ := Aside0.mk (blk_drew BK593.out)
 have n1_ := Aside0.mk (below_drew1 HB.out)
 clear BK593
 clear HB
 have BK593 := n0_
 have HB := n1_
 clear n0_ n1_
 refine start_ (n := 16) (S := fun w' => w'.cell? ⟨gb593,0,none⟩ = some (.int .u64 a0_0) ∧ w'.cell? ⟨gb593,1,none⟩ = some (.int .i64 a0_1) ∧ w'.cell? ⟨gb593,2,none⟩ = some (.int .i64 a0_2) ∧ w'.cell? ⟨gb593,3,none⟩ = some (.slice A0_3 l0_3.length c0_3) ∧ w'.cell? ⟨gb593,4,none⟩ = some (.int .u64 a0_4) ∧ w'.cell? ⟨gb593,5,none⟩ = some (.int .u64 a0_5) ∧ w'.cell? ⟨gb593,6,none⟩ = some (.slice A0_6 l0_6.length c0_6)) (ds := []) #[false,false,false,false,false,false,false,false,false,false,false,false,false,false,false,false] (by kernel_rfl) rfl rfl ⟨(blk_cell BK593.out 0).trans rfl,(blk_cell BK593.out 1).trans rfl,(blk_cell BK593.out 2).trans rfl,(blk_cell BK593.out 3).trans rfl,(blk_cell BK593.out 4).trans rfl,(blk_cell BK593.out 5).trans rfl,(blk_cell BK593.out 6).trans rfl⟩ (fun hHeld => ?_);refine with_tabW privitylaw43_triple.tab3 privitylaw43_triple.bits3 (fun HT_ HW_ => ?_)
 generalize w4.drew = w6 at BK593 HB hHeld ⊢
 refine pure_ (i := 1) (N := some 17) (v := ?_) (a' := ?_) #[false,true,false,false,false,false,false,false,false,false,false,false,false,false,false,false] rfl rfl (any_of HT_.out (by kernel_rfl)) (fun _ _ _ h => h) (Or.inl ⟨by rfl,?_⟩) ?_ ?_
 rotate_left
 ·intro w'
  go_simp
  with_reducible rfl
 rotate_left
 ·simp only [Act.put,List.setIfInBounds_toArray,List.set_cons_zero,List.set_cons_succ,i64_w,i32_w]
  rfl
 refine pure_ (i := 4) (N := some 20) (v := ?_) (a' := ?_) #[false,true,false,false,true,false,false,false,false,false,false,false,false,false,false,false] rfl rfl (any_of HT_.out (by kernel_rfl)) (fun _ _ _ h => h) (Or.inl ⟨by rfl,?_⟩) ?_ ?_
 rotate_left
 ·intro w'
  go_simp
  with_reducible rfl
 rotate_left
 ·simp only [Act.put,List.setIfInBounds_toArray,List.set_cons_zero,List.set_cons_succ,i64_w,i32_w]
  rfl
 refine pure_ (i := 5) (N := some 21) (v := ?_) (a' := ?_) #[false,true,false,false,true,true,false,false,false,false,false,false,false,false,false,false] rfl rfl (any_of HT_.out (by kernel_rfl)) (fun _ _ _ h => h) (Or.inl ⟨by rfl,?_⟩) ?_ ?_
 rotate_left
 ·intro w'
  go_simp
  with_reducible rfl
 rotate_left
 ·simp only [Act.put,List.setIfInBounds_toArray,List.set_cons_zero,List.set_cons_succ,i64_w,i32_w]
  rfl
 refine pure_ (i := 6) (N := some 22) (v := ?_) (a' := ?_) #[false,true,false,false,true,true,true,false,false,false,false,false,false,false,false,false] rfl rfl (any_of HT_.out (by kernel_rfl)) (fun _ _ _ h => h) (Or.inl ⟨by rfl,?_⟩) ?_ ?_
 rotate_left
 ·intro w'
  go_simp
  with_reducible rfl
 rotate_left
 ·simp only [Act.put,List.setIfInBounds_toArray,List.set_cons_zero,List.set_cons_succ,i64_w,i32_w]
  rfl
 refine pure_ (i := 7) (N := some 23) (v := ?_) (a' := ?_) #[false,true,false,false,true,true,true,true,false,false,false,false,false,false,false,false] rfl rfl (any_of HT_.out (by kernel_rfl)) (fun _ _ _ h => h) (Or.inl ⟨by rfl,?_⟩) ?_ ?_
 rotate_left
 ·intro w'
  go_simp
  with_reducible rfl
 rotate_left
 ·simp only [Act.put,List.setIfInBounds_toArray,List.set_cons_zero,List.set_cons_succ,i64_w,i32_w]
  rfl
 refine pure_ (i := 8) (N := some 24) (v := ?_) (a' := ?_) #[false,true,false,false,true,true,true,true,true,false,false,false,false,false,false,false] rfl rfl (any_of HT_.out (by kernel_rfl)) (fun _ _ _ h => h) (Or.inl ⟨by rfl,?_⟩) ?_ ?_
 rotate_left
 ·intro w'
  go_simp
  with_reducible rfl
 rotate_left
 ·simp only [Act.put,List.setIfInBounds_toArray,List.set_cons_zero,List.set_cons_succ,i64_w,i32_w]
  rfl
 refine pure_ (i := 9) (N := some 25) (v := ?_) (a' := ?_) #[false,true,false,false,true,true,true,true,true,true,false,false,false,false,false,false] rfl rfl (any_of HT_.out (by kernel_rfl)) (fun _ _ _ h => h) (Or.inl ⟨by rfl,?_⟩) ?_ ?_
 rotate_left
 ·intro w'
  go_simp
  with_reducible rfl
 rotate_left
 ·simp only [Act.put,List.setIfInBounds_toArray,List.set_cons_zero,List.set_cons_succ,i64_w,i32_w]
  rfl
 refine pure_ (i := 10) (N := some 26) (v := ?_) (a' := ?_) #[false,true,false,false,true,true,true,true,true,true,true,false,false,false,false,false] rfl rfl (any_of HT_.out (by kernel_rfl)) (fun _ _ _ h => h) (Or.inl ⟨by rfl,?_⟩) ?_ ?_
 rotate_left
 ·intro w'
  go_simp
  with_reducible rfl
 rotate_left
 ·simp only [Act.put,List.setIfInBounds_toArray,List.set_cons_zero,List.set_cons_succ,i64_w,i32_w]
  rfl
 refine pure_ (i := 11) (N := some 27) (v := ?_) (a' := ?_) #[false,true,false,false,true,true,true,true,true,true,true,true,false,false,false,false] rfl rfl (any_of HT_.out (by kernel_rfl)) (fun _ _ _ h => h) (Or.inl ⟨by rfl,?_⟩) ?_ ?_
 rotate_left
 ·intro w'
  go_simp
  with_reducible rfl
 rotate_left
 ·simp only [Act.put,List.setIfInBounds_toArray,List.set_cons_zero,List.set_cons_succ,i64_w,i32_w]
  rfl
 refine pure_ (i := 12) (N := some 28) (v := ?_) (a' := ?_) #[false,true,false,false,true,true,true,true,true,true,true,true,true,false,false,false] rfl rfl (any_of HT_.out (by kernel_rfl)) (fun _ _ _ h => h) (Or.inl ⟨by rfl,?_⟩) ?_ ?_
 rotate_left
 ·intro w'
  go_simp
  with_reducible rfl
 rotate_left
 ·simp only [Act.put,List.setIfInBounds_toArray,List.set_cons_zero,List.set_cons_succ,i64_w,i32_w]
  rfl
 refine take_ (i := 0) (N := some 16) (v := ?_) (a' := ?_) #[true,true,false,false,true,true,true,true,true,true,true,true,true,false,false,false] rfl rfl (take_ofW HT_.out HW_.out (by kernel_rfl)) (fun _ _ _ h => h) (Or.inl ⟨by rfl,?_⟩) hHeld ?_ ?_
 rotate_left
 ·rintro w' ⟨s0,s1,s2,s3,s4,s5,s6⟩
  go_simp
  with_reducible rfl
 rotate_left
 ·simp only [Act.put,List.setIfInBounds_toArray,List.set_cons_zero,List.set_cons_succ,i64_w,i32_w]
  rfl
 refine take_ (i := 3) (N := some 19) (v := ?_) (a' := ?_) #[true,true,false,true,true,true,true,true,true,true,true,true,true,false,false,false] rfl rfl (take_ofW HT_.out HW_.out (by kernel_rfl)) (fun _ _ _ h => h) (Or.inl ⟨by rfl,?_⟩) hHeld ?_ ?_
 rotate_left
 ·rintro w' ⟨s0,s1,s2,s3,s4,s5,s6⟩
  go_simp
  with_reducible rfl
 rotate_left
 ·simp only [Act.put,List.setIfInBounds_toArray,List.set_cons_zero,List.set_cons_succ,i64_w,i32_w]
  rfl
 refine one_ (i := 2) (N := some 18) #[true,true,true,true,true,true,true,true,true,true,true,true,true,false,false,false] rfl rfl (one_of HT_.out (by kernel_rfl)) (by decide) (fun K hK => ?_)
 refine goes_ Try.func42 (by kernel_rfl) rfl #[.agg #[.int .u64 a0_0,.int .i64 a0_1,.int .i64 a0_2,.slice A0_3 l0_3.length c0_3,.int .u64 a0_4,.int .u64 a0_5,.slice A0_6 l0_6.length c0_6],.int .i64 0,.int .i64 (wrap64 ((wrap64 (2 * (wrap64 (a0_2 + 1)))) + (wrap64 (a0_2 * a0_2))))] (by rfl) rfl rfl (by (try simp only [List.map_toArray,List.map_cons,List.map_nil]);first|done|rfl|(simp only [List.length_drop,List.length_take];rfl)) ?_
 with_reducible refine (privitylaw43_cut.calls k a0_0 a0_1 a0_2 _ _ l0_3 a0_4 a0_5 _ _ l0_6 0 (wrap64 ((wrap64 (2 * (wrap64 (a0_2 + 1)))) + (wrap64 (a0_2 * a0_2)))) t594 _ ?side1 ?side2 ?side3 ?side4 A2.out).mono ?_
 (case side1 => repeat (first|exact (Kd.C_below HR0_3.out HB.out)|(with_reducible refine Kd.C_alloc ?_ _)|(with_reducible refine Kd.C_drewN ?_ _)|(with_reducible refine Kd.C_drew ?_)))
 (case side2 => exact HC0_3.out)
 (case side3 => repeat (first|exact (Kd.C_below HR0_6.out HB.out)|(with_reducible refine Kd.C_alloc ?_ _)|(with_reducible refine Kd.C_drewN ?_ _)|(with_reducible refine Kd.C_drew ?_)))
 (case side4 => exact HC0_6.out)
 rintro e w7 ⟨v595,rfl,ho0,hb⟩
 refine ⟨_,rfl,?_⟩
 have n0_ := Aside0.mk (Kd.R_lower ho0 (below_size (by repeat (first|(with_reducible first|exact HB.out|apply below_alloc|apply pw_below_drewN|apply below_drew1|refine below_set ?_ GE593.out)|exact HB.out))))
 have n1_ := Aside0.mk (blk_below (g := gb593) (o := .cells #[.int .u64 a0_0,.int .i64 a0_1,.int .i64 a0_2,.slice A0_3 l0_3.length c0_3,.int .u64 a0_4,.int .u64 a0_5,.slice A0_6 l0_6.length c0_6] 28 (0,0)) (by (with_reducible repeat (first|refine blk_drewN ?_ _|refine blk_drew ?_|refine blk_alloc ?_ _));exact BK593.out) hb)
 have n2_ := Aside0.mk (below_step (by repeat (first|(with_reducible first|exact HB.out|apply below_alloc|apply pw_below_drewN|apply below_drew1|refine below_set ?_ GE593.out)|exact HB.out)) hb)
 clear BK593
 clear HB
 have HO596 := n0_
 have BK593 := n1_
 have HB := n2_
 clear n0_ n1_ n2_
 (try clear hb)
 (try clear hb2)
 (try clear hk)
 (try clear hi)
 (try clear ho0)
 refine hK.out _ _ ⟨(blk_cell BK593.out 0).trans rfl,(blk_cell BK593.out 1).trans rfl,(blk_cell BK593.out 2).trans rfl,(blk_cell BK593.out 3).trans rfl,(blk_cell BK593.out 4).trans rfl,(blk_cell BK593.out 5).trans rfl,(blk_cell BK593.out 6).trans rfl⟩ (fun hHeld => ?_)
 clear hK K
 refine norm_ (a' := ?_) ?_ ?_
 rotate_left
 ·show Act.put _ (some 18) _ = _
  simp only [Act.put,List.setIfInBounds_toArray,List.set_cons_zero,List.set_cons_succ,i64_w,i32_w]
  rfl
 refine one_ (i := 13) (N := some 29) #[true,true,true,true,true,true,true,true,true,true,true,true,true,true,false,false] rfl rfl (one_of HT_.out (by kernel_rfl)) (by decide) (fun K hK => ?_)
 refine goes_ Try.func42 (by kernel_rfl) rfl #[.agg #[.int .u64 a0_0,.int .i64 a0_1,.int .i64 a0_2,.slice A0_3 l0_3.length c0_3,.int .u64 a0_4,.int .u64 a0_5,.slice A0_6 l0_6.length c0_6],.int .i64 (wrap64 ((wrap64 (2 * (wrap64 (a0_2 + 1)))) + (wrap64 (a0_2 * a0_2)))),.int .i64 (wrap64 (Int.tdiv (wrap64 ((wrap64 ((wrap64 (a0_2 + 3)) * a0_2)) * (wrap64 (a0_2 + 1)))) 2))] (by rfl) rfl rfl (by (try simp only [List.map_toArray,List.map_cons,List.map_nil]);first|done|rfl|(simp only [List.length_drop,List.length_take];rfl)) ?_
 with_reducible refine (privitylaw43_cut.calls k a0_0 a0_1 a0_2 _ _ l0_3 a0_4 a0_5 _ _ l0_6 (wrap64 ((wrap64 (2 * (wrap64 (a0_2 + 1)))) + (wrap64 (a0_2 * a0_2)))) (wrap64 (Int.tdiv (wrap64 ((wrap64 ((wrap64 (a0_2 + 3)) * a0_2)) * (wrap64 (a0_2 + 1)))) 2)) t597 _ ?side1 ?side2 ?side3 ?side4 A3.out).mono ?_
 (case side1 => repeat (first|exact (Kd.C_below HR0_3.out HB.out)|(with_reducible refine Kd.C_alloc ?_ _)|(with_reducible refine Kd.C_drewN ?_ _)|(with_reducible refine Kd.C_drew ?_)))
 (case side2 => exact HC0_3.out)
 (case side3 => repeat (first|exact (Kd.C_below HR0_6.out HB.out)|(with_reducible refine Kd.C_alloc ?_ _)|(with_reducible refine Kd.C_drewN ?_ _)|(with_reducible refine Kd.C_drew ?_)))
 (case side4 => exact HC0_6.out)
 rintro e w8 ⟨v598,rfl,ho0,hb⟩
 refine ⟨_,rfl,?_⟩
 have n0_ := Aside0.mk (Kd.R_elder' (by (with_reducible repeat (first|apply Kd.R_alloc|apply Kd.R_drewN|apply Kd.R_drew));exact HO596.out) (Kd.R_base ho0) hb)
 have n1_ := Aside0.mk (Kd.R_lower (Kd.R_new' ho0 (Kd.R_lt (by (with_reducible repeat (first|apply Kd.R_alloc|apply Kd.R_drewN|apply Kd.R_drew));exact HO596.out))) (below_size (by repeat (first|(with_reducible first|exact HB.out|apply below_alloc|apply pw_below_drewN|apply below_drew1|refine below_set ?_ GE593.out)|exact HB.out))))
 have n2_ := Aside0.mk (blk_below (g := gb593) (o := .cells #[.int .u64 a0_0,.int .i64 a0_1,.int .i64 a0_2,.slice A0_3 l0_3.length c0_3,.int .u64 a0_4,.int .u64 a0_5,.slice A0_6 l0_6.length c0_6] 28 (0,0)) (by (with_reducible repeat (first|refine blk_drewN ?_ _|refine blk_drew ?_|refine blk_alloc ?_ _));exact BK593.out) hb)
 have n3_ := Aside0.mk (below_step (by repeat (first|(with_reducible first|exact HB.out|apply below_alloc|apply pw_below_drewN|apply below_drew1|refine below_set ?_ GE593.out)|exact HB.out)) hb)
 clear HO596
 clear BK593
 clear HB
 have HO596 := n0_
 have HO599 := n1_
 have BK593 := n2_
 have HB := n3_
 clear n0_ n1_ n2_ n3_
 (try clear hb)
 (try clear hb2)
 (try clear hk)
 (try clear hi)
 (try clear ho0)
 refine hK.out _ _ ⟨(blk_cell BK593.out 0).trans rfl,(blk_cell BK593.out 1).trans rfl,(blk_cell BK593.out 2).trans rfl,(blk_cell BK593.out 3).trans rfl,(blk_cell BK593.out 4).trans rfl,(blk_cell BK593.out 5).trans rfl,(blk_cell BK593.out 6).trans rfl⟩ (fun hHeld => ?_)
 clear hK K
 refine norm_ (a' := ?_) ?_ ?_
 rotate_left
 ·show Act.put _ (some 29) _ = _
  simp only [Act.put,List.setIfInBounds_toArray,List.set_cons_zero,List.set_cons_succ,i64_w,i32_w]
  rfl
 refine pure_ (i := 14) (N := some 2) (v := ?_) (a' := ?_) #[true,true,true,true,true,true,true,true,true,true,true,true,true,true,true,false] rfl rfl (any_of HT_.out (by kernel_rfl)) (fun _ _ _ h => h) (Or.inl ⟨by rfl,?_⟩) ?_ ?_
 rotate_left
 ·intro w'
  go_simp
  with_reducible rfl
 rotate_left
 ·simp only [Act.put,List.setIfInBounds_toArray,List.set_cons_zero,List.set_cons_succ,i64_w,i32_w]
  rfl
 refine pure_ (i := 15) (N := some 3) (v := ?_) (a' := ?_) #[true,true,true,true,true,true,true,true,true,true,true,true,true,true,true,true] rfl rfl (any_of HT_.out (by kernel_rfl)) (fun _ _ _ h => h) (Or.inl ⟨by rfl,?_⟩) ?_ ?_
 rotate_left
 ·intro w'
  go_simp
  with_reducible rfl
 rotate_left
 ·simp only [Act.put,List.setIfInBounds_toArray,List.set_cons_zero,List.set_cons_succ,i64_w,i32_w]
  rfl
 refine done_ (done_of HT_.out (by kernel_rfl)) ?_
 try go_wp2
 go_ret2
 exact ⟨_,_,by first|rfl|(simp [errW_none,errW_some] <;> rfl)|(simp [*,errW_none,errW_some] <;> rfl),by (with_reducible repeat (first|apply Kd.R_alloc|apply Kd.R_drewN|apply Kd.R_drew));exact Kd.R_mono HO596.out (fun _ hk => hk.2),by (with_reducible repeat (first|apply Kd.R_alloc|apply Kd.R_drewN|apply Kd.R_drew));exact Kd.R_mono HO599.out (fun _ hk => hk.2),by repeat (first|(with_reducible first|exact HB.out|apply below_alloc|apply pw_below_drewN|apply below_drew1|refine below_set ?_ GE593.out)|exact HB.out)⟩
-- NOT PRINTED: function 50 (tapeshift_cutter)

end Go.Proofs.Ytejeelpnmdfibaa.Pr
end
section
/-
  cutter of package tapeshift and its closure, proved by hand: the next words of a list.
-/
namespace Go.Proofs.Ytejeelpnmdfibaa.Hw
open Go.RowKit Go.Proofs.Ytejeelpnmdfibaa.Pr Go.Proofs.YtejeelpnmdfibaaW.PrintWords Go.Proofs.YtejeelpnmdfibaaW.PrintLast Go.Proofs.YtejeelpnmdfibaaW.PrintMore Go.Proofs.Ytejeelpnmdfibaa.E
set_option linter.unusedVariables false
set_option linter.unusedSimpArgs false

/-- The variable of the closure: what is left of the list. -/
def LeftAt (w : World) (g : Nat) (A : Option Addr) (n c : Nat) : Prop := w.heap[g]? = some (.cells #[.slice A n c] 26 (0, 0))
set_option maxHeartbeats 2000000 in
set_option maxRecDepth 100000 in
theorem cutter_walk (A : Option Addr) (n c : Nat) (w : World) : Calls Try.prog 50 #[.slice A n c] w fun e w' => ∃ g : Nat, e = .returned (.func (.func 79) #[] #[.pointer (some ⟨g, 0, none⟩)]) ∧ w.heap.size ≤ g ∧ LeftAt w' g A n c ∧ Below w.heap.size w w' := by
  go_enter Try.func50, Try.ntmps50
  go_wp2
  first | go_ret | ((try simp only [Exit.inBlock, Exit.then]); refine bodyPost_ret (results_tmp rfl _ _ _) rfl ?_)
  exact ⟨w.heap.size, rfl, Nat.le_refl _, blk_new w _, below_alloc (Below.refl _ _) _⟩
theorem info_u64 : ∃ i, Try.prog.info? 22 = some i ∧ i.size = 1 := by
  have h := info22
  cases hi : Try.prog.info? 22 with
  | none => rw [hi] at h; cases h
  | some i =>
    rw [hi] at h
    simp only [Option.map_some, Option.some.injEq, Prod.mk.injEq] at h
    exact ⟨i, rfl, h.2.1⟩
/-- What is left behind the first m words. -/
def dropA (A : Option Addr) (c m : Nat) : Option Addr := if c = m then A else A.map (·.add m)
theorem cut_drop (A : Option Addr) (n c m : Nat) (hm : m ≤ n) (W : World) : (Instr.slice 26 (.slice A n c) (some (.int .i64 (m : Int))) none none).run Try.prog W = .ok (.slice (dropA A c m) (n - m) (c - m)) W := by
  obtain ⟨i, hi, hsz⟩ := info_u64
  have hel : Try.prog.elem 26 = 22 := by simp [Program.elem, Try.underlying26]
  have hu : Try.prog.underlying 26 = some (.slice (Try.prog.elem 26)) := by rw [hel]; exact Try.underlying26
  unfold dropA
  rw [run_slice_l W 26 A n c hu .i64 (m : Int) (Int.natCast_nonneg _) (by omega), hel]
  simp [sizeOf, typeInfo, hi, hsz, sliced, Result.andThen]
theorem cut_take (A : Option Addr) (n c m : Nat) (hm : m ≤ c) (W : World) : (Instr.slice 26 (.slice A n c) none (some (.int .i64 (m : Int))) none).run Try.prog W = .ok (.slice A m c) W := by
  obtain ⟨i, hi, hsz⟩ := info_u64
  have hel : Try.prog.elem 26 = 22 := by simp [Program.elem, Try.underlying26]
  have hu : Try.prog.underlying 26 = some (.slice (Try.prog.elem 26)) := by rw [hel]; exact Try.underlying26
  have ha : (A.map fun x => x.add 0) = A := by cases A <;> simp [Addr.add]
  rw [run_slice_h W 26 A n c hu .i64 (m : Int) (Int.natCast_nonneg _) (by omega), hel]
  simp [sizeOf, typeInfo, hi, hsz, sliced, Result.andThen, ha]
set_option maxHeartbeats 2000000 in
set_option maxRecDepth 100000 in
theorem take_walk (g : Nat) (A : Option Addr) (n c m : Nat) (w : World) (hg : LeftAt w g A n c) (hc : n ≤ c) (hm : m ≤ n) :
    Calls Try.prog 79 #[.int .i64 (m : Int), .pointer (some ⟨g, 0, none⟩)] w fun e w' => e = .returned (.slice A m c) ∧ LeftAt w' g (dropA A c m) (n - m) (c - m) ∧
      (∀ b, b ≠ g → w'.heap[b]? = w.heap[b]?) ∧ (∀ B w0, B ≤ g → Below B w0 w → Below B w0 w') := by
  have c0 := blk_cell hg 0
  simp only [List.getElem?_toArray, List.getElem?_cons_zero] at c0
  have f0 := blk_frozen hg 0
  have h1 := cut_take A n c m (by omega)
  have h2 := cut_drop A n c m hm
  have HG := Aside0.mk hg
  clear hg
  go_enter Try.func79, Try.ntmps79
  go_wp2
  first | go_ret | ((try simp only [Exit.inBlock, Exit.then]); refine bodyPost_ret (results_tmp rfl _ _ _) rfl ?_)
  refine ⟨rfl, ?_, fun b hb => heap_setCell_other _ ⟨g, 0, none⟩ b _ hb, fun B w0 hB h => Below.setCell h (p := ⟨g, 0, none⟩) hB _⟩
  exact blk_put HG.out 0 _ rfl
end Go.Proofs.Ytejeelpnmdfibaa.Hw
end
