/- Part 6 of the proof's texts, joined in build order. -/
import Derived.Test.YtakaonojfpkhnaaDoorZScenarioWithExtraDeviation5
import Derived.Test.YtakaonojfpkhnaaDoorZScenarioWithExtraDeviation4
import Derived.Test.YtakaonojfpkhnaaDoorZScenarioWithExtraDeviation1
import Derived.Test.YtakaonojfpkhnaaDoorZScenarioWithExtraDeviation2
import Derived.Test.YtakaonojfpkhnaaDoorZScenarioWithExtraDeviation3
import Derived.Test.YtakaonojfpkhnaaDoorProg
import Derived.ChangeArms
import Derived.DataReads
import Derived.DataElems
import Derived.ShutString
import Derived.ChangeSame
import Derived.OpenShut
import Derived.Test.YtakaonojfpkhnaaDoorZScenarioWithExtraDeviation0
section
/-
  awake of the statements of chapter 12, proved by hand.
-/
namespace Go.Proofs.YtakaonojfpkhnaaDoor.Hw
open Go.RowKit Go.Proofs.YtakaonojfpkhnaaDoor.Pr Go.Proofs.YtakaonojfpkhnaaDoorW.PrintWords Go.Proofs.YtakaonojfpkhnaaDoorW.PrintLast Go.Proofs.YtakaonojfpkhnaaDoorW.PrintMore Go.Proofs.YtakaonojfpkhnaaDoor.E
set_option linter.unusedVariables false
set_option linter.unusedSimpArgs false

theorem drawn_below {w w' : World} (h : Drawn0 w w') : Below w.heap.size w w' := by
  obtain ⟨nd, rfl⟩ := h
  exact pw_below_drewN (Below.refl _ _) nd
theorem aw_v1 : params_Valid.f 31 4 1 = some true := by kernel_rfl
theorem aw_v2 : params_Valid.f 31 6 2 = some false := by kernel_rfl
theorem aw_c1 : params_ValidCoalition.f 20 31 4 1 [3] = some true := by kernel_rfl
theorem aw_c2 : params_ValidCoalition.f 20 31 4 1 [3, 4] = some false := by kernel_rfl
theorem aw_e : params_ExtendCoalition.f 31 4 1 [] = some [1] := by kernel_rfl
theorem aw_i1 : privityref12_Ints.f 20 [1] [1] = some true := by kernel_rfl
theorem aw_h : params_HonestParties.f 31 4 1 [3] = some [1, 2, 4] := by kernel_rfl
theorem aw_i2 : privityref12_Ints.f 20 [1, 2, 4] [1, 2, 4] = some true := by kernel_rfl
theorem aw_p : params_VanishingPolynomial.f 40 31 4 1 [3] = some [1, 10] := by kernel_rfl
theorem aw_s : privityref05_Same.f 20 [1, 10] [1, 10] = some true := by kernel_rfl
theorem aw_w : params_ValidScenario.f 31 4 1 [] [] [[], [30], [], []] = some true := by kernel_rfl
theorem aw_x : params_ValidScenario.f 31 4 1 [] [] [[], [31], [], []] = some false := by kernel_rfl
theorem aw_scn (A : Option Addr) (c : Nat) (r : List (List Int)) (b : Bool) (hl : r.length ≤ c) (h : params_ValidScenario.f 31 4 1 [] [] r = some b) (W : World) (hx : Hx W) (hC : Kd.C (Kd.slice 22 (Kd.int .u64)) W A r.length r) :
    Calls Tryd.prog 14 #[.agg #[.int .u64 31, .int .i64 4, .int .i64 1, .slice none 0 0, .slice none 0 0, .slice A r.length c]] W fun e w' => e = .returned (.bool b) ∧ Below W.heap.size W w' :=
  params_ValidScenario.calls 31 4 1 none 0 [] none 0 [] A c r b W (Kd.C_nil _ _) (Nat.le_refl _) (Kd.C_nil _ _) (Nat.le_refl _) hC hl hx h
theorem aw_one3 : (#[.int .u64 31, .int .i64 4, .int .i64 1] : Array Value).all (·.oneCell') = true := by simp only [List.all_toArray, List.all_cons, List.all_nil]; rfl
theorem aw_one6 (A : Option Addr) (n c : Nat) : (#[.int .u64 31, .int .i64 4, .int .i64 1, .slice none 0 0, .slice none 0 0, .slice A n c] : Array Value).all (·.oneCell') = true := by simp only [List.all_toArray, List.all_cons, List.all_nil]; rfl
set_option maxHeartbeats 16000000 in
set_option maxRecDepth 100000 in
theorem awake_walk (w : World) (hx : Hx w) : Calls Tryd.prog 9 #[] w fun e w' => e = .returned (.bool true) ∧ Below w.heap.size w w' := by
  have HX := Aside0.mk hx
  clear hx
  have HB := Aside0.mk (Below.refl w.heap.size w)
  have hz1 : (Tryd.prog.info? 24).map (·.size) = some 3 := by kernel_rfl
  have hz2 : (Tryd.prog.info? 32).map (·.size) = some 6 := by kernel_rfl
  have HZ1 := Aside0.mk hz1
  have HZ2 := Aside0.mk hz2
  clear hz1 hz2
  obtain ⟨y30, hy30⟩ : ∃ y : List Int, y = [30] := ⟨_, rfl⟩
  obtain ⟨y31, hy31⟩ : ∃ y : List Int, y = [31] := ⟨_, rfl⟩
  obtain ⟨y3, hy3⟩ : ∃ y : List Int, y = [3] := ⟨_, rfl⟩
  obtain ⟨y34, hy34⟩ : ∃ y : List Int, y = [3, 4] := ⟨_, rfl⟩
  obtain ⟨y1, hy1⟩ : ∃ y : List Int, y = [1] := ⟨_, rfl⟩
  obtain ⟨y124, hy124⟩ : ∃ y : List Int, y = [1, 2, 4] := ⟨_, rfl⟩
  obtain ⟨y110, hy110⟩ : ∃ y : List Int, y = [1, 10] := ⟨_, rfl⟩
  obtain ⟨r30, hr30⟩ : ∃ y : List (List Int), y = [[], y30, [], []] := ⟨_, rfl⟩
  obtain ⟨r31, hr31⟩ : ∃ y : List (List Int), y = [[], y31, [], []] := ⟨_, rfl⟩
  have Fc1 := Aside0.mk (show params_ValidCoalition.f 20 31 4 1 y3 = some true by rw [hy3]; exact aw_c1)
  have Fc2 := Aside0.mk (show params_ValidCoalition.f 20 31 4 1 y34 = some false by rw [hy34]; exact aw_c2)
  have Fe := Aside0.mk (show params_ExtendCoalition.f 31 4 1 [] = some y1 by rw [hy1]; exact aw_e)
  have Fi1 := Aside0.mk (show privityref12_Ints.f 20 y1 y1 = some true by rw [hy1]; exact aw_i1)
  have Fh := Aside0.mk (show params_HonestParties.f 31 4 1 y3 = some y124 by rw [hy3, hy124]; exact aw_h)
  have Fi2 := Aside0.mk (show privityref12_Ints.f 20 y124 y124 = some true by rw [hy124]; exact aw_i2)
  have Fp := Aside0.mk (show params_VanishingPolynomial.f 40 31 4 1 y3 = some y110 by rw [hy3, hy110]; exact aw_p)
  have Fs := Aside0.mk (show privityref05_Same.f 20 y110 y110 = some true by rw [hy110]; exact aw_s)
  have Fw := Aside0.mk (show params_ValidScenario.f 31 4 1 [] [] r30 = some true by rw [hr30, hy30]; exact aw_w)
  have Fx := Aside0.mk (show params_ValidScenario.f 31 4 1 [] [] r31 = some false by rw [hr31, hy31]; exact aw_x)
  have Ny30 := Aside0.mk hy30
  have Ny31 := Aside0.mk hy31
  have Ny3 := Aside0.mk hy3
  have Ny34 := Aside0.mk hy34
  have Ny1 := Aside0.mk hy1
  have Ny124 := Aside0.mk hy124
  have Ny110 := Aside0.mk hy110
  have Nr30 := Aside0.mk hr30
  have Nr31 := Aside0.mk hr31
  clear hy30 hy31 hy3 hy34 hy1 hy124 hy110 hr30 hr31
  go_enter Tryd.func9, Tryd.ntmps9
  go_wp2_with (first
    | ((with_reducible refine gate_dst (N := 1) rfl ?_); refine box_event ?hg (N := 1) ?hd (cs := #[.int .u64 0, .int .i64 0, .int .i64 0]) (t := 24) ?hr ?_; (case hd => rfl); (case hg => rfl); (case hr => first | (go_simp; done) | (go_simp; rfl)); intro g1 hg w101 hbox hb; have GE := Aside0.mk (show w.heap.size ≤ g1 from Nat.le_of_eq hg.symm); have BP := Aside0.mk hb; have BK1 := Aside0.mk hbox; clear hbox hb hg)
    | ((with_reducible refine gate_store (p := 1) rfl ?_); refine st_row rfl 24 (.tmp 1) (.tmp 4) rfl g1 #[.int .u64 31, .int .i64 4, .int .i64 1] (by rfl) (by rfl) 24 #[.int .u64 0, .int .i64 0, .int .i64 0] BK1.out HZ1.out rfl (aw_one3) ?_; intro w102 hbk hbw hbo; have hb := hbw _ _ GE.out BP.out; clear BP GE hbw hbo; have m_HB := Aside0.mk (below_step HB.out hb); clear HB; have HB := m_HB; clear m_HB; clear BK1; have BK1 := Aside0.mk hbk; clear hb hbk; (try clear q0 q1 q2); have q0 : w102.cell? ⟨g1, 0, none⟩ = some (.int .u64 31) := (blk_cell BK1.out 0).trans rfl; have q1 : w102.cell? ⟨g1, 1, none⟩ = some (.int .i64 4) := (blk_cell BK1.out 1).trans rfl; have q2 : w102.cell? ⟨g1, 2, none⟩ = some (.int .i64 1) := (blk_cell BK1.out 2).trans rfl)
    | ((with_reducible refine gate_dst (N := 6) rfl ?_); (try (refine gate_guard (by rfl) ?_; dsimp only)); refine Kd.R_lit (Kd.int .u64) _ 22 ?hg (N := 6) ?hd (xs := ([30] : List Int)) (inner := [.int .u64 30]) (ok := fun _ => True) (okp := fun _ => True) ?hr ?hp (fun _ hk => hk) trivial (Below.refl _ _) (Nat.le_refl _) (by simp) ?_; (case hd => rfl); (case hg => rfl); (case hr => first | (go_simp; done) | (go_simp; rfl)); (case hp => exact (Reps.one (show Kd.M (Kd.int .u64) _ _ _ 30 [.int .u64 30] from rfl) (Reps.none _ _))); intro v6 w103 ho hb hg_ hnew_; clear hg_ hnew_; (first | rw [← Ny30.out] at ho | (simp only [Int.reduceToNat] at ho; rw [← Ny30.out] at ho)); obtain ⟨A6, c6, e6⟩ := Kd.R_slice ho; subst e6; have C6 := Aside0.mk (Kd.R_reads' ho).2.2; have L6 := Aside0.mk (Kd.R_reads' ho).2.1; have HO6 := Aside0.mk (Kd.R_lower ho (below_size HB.out)); have m_HB := Aside0.mk (below_step HB.out hb); have m_BK1 := Aside0.mk (blk_below BK1.out hb); clear HB; have HB := m_HB; clear m_HB; clear BK1; have BK1 := m_BK1; clear m_BK1; clear ho hb; (try clear q0 q1 q2); have q0 : w103.cell? ⟨g1, 0, none⟩ = some (.int .u64 31) := (blk_cell BK1.out 0).trans rfl; have q1 : w103.cell? ⟨g1, 1, none⟩ = some (.int .i64 4) := (blk_cell BK1.out 1).trans rfl; have q2 : w103.cell? ⟨g1, 2, none⟩ = some (.int .i64 1) := (blk_cell BK1.out 2).trans rfl)
    | ((with_reducible refine gate_dst (N := 7) rfl ?_); (try (refine gate_guard (by rfl) ?_; dsimp only)); refine Kd.N_lit (Kd.slice 22 (Kd.int .u64)) _ 33 ?hg (N' := 7) ?hd (xs := ([[], y30, [], []] : List (List Int))) (inner := [.slice none 0 0, .slice A6 y30.length c6, .slice none 0 0, .slice none 0 0]) (ok := fun _ => True) (okp := fun _ => True) ?hr ?hp (fun _ hk => hk) trivial (Below.refl _ _) (Nat.le_refl _) (by simp) ?_; (case hd => rfl); (case hg => rfl); (case hr => first | (go_simp; done) | (go_simp; rfl)); (case hp => exact (Reps.one (show Kd.FK (Kd.slice 22 (Kd.int .u64)) _ _ [] [.slice none 0 0] from (Kd.FK_slice_mk (Nat.le_refl _) (Kd.F_nil _ _ _))) (Reps.one (show Kd.FK (Kd.slice 22 (Kd.int .u64)) _ _ y30 [.slice A6 y30.length c6] from (Kd.FK_slice_mk (Kd.R_reads' HO6.out).2.1 (Kd.R_F HO6.out))) (Reps.one (show Kd.FK (Kd.slice 22 (Kd.int .u64)) _ _ [] [.slice none 0 0] from (Kd.FK_slice_mk (Nat.le_refl _) (Kd.F_nil _ _ _))) (Reps.one (show Kd.FK (Kd.slice 22 (Kd.int .u64)) _ _ [] [.slice none 0 0] from (Kd.FK_slice_mk (Nat.le_refl _) (Kd.F_nil _ _ _))) (Reps.none _ _)))))); intro v7 w104 ho hb hg_ hnew_; clear hg_ hnew_; (first | rw [← Nr30.out] at ho | (simp only [Int.reduceToNat] at ho; rw [← Nr30.out] at ho)); obtain ⟨A7, c7, e7⟩ := Kd.N_slice ho; subst e7; have C7 := Aside0.mk (Kd.N_reads' ho).2.2; have L7 := Aside0.mk (Kd.N_reads' ho).2.1; have m_HB := Aside0.mk (below_step HB.out hb); have m_BK1 := Aside0.mk (blk_below BK1.out hb); clear HB; have HB := m_HB; clear m_HB; clear BK1; have BK1 := m_BK1; clear m_BK1; clear ho hb HO6; (try clear q0 q1 q2); have q0 : w104.cell? ⟨g1, 0, none⟩ = some (.int .u64 31) := (blk_cell BK1.out 0).trans rfl; have q1 : w104.cell? ⟨g1, 1, none⟩ = some (.int .i64 4) := (blk_cell BK1.out 1).trans rfl; have q2 : w104.cell? ⟨g1, 2, none⟩ = some (.int .i64 1) := (blk_cell BK1.out 2).trans rfl)
    | ((with_reducible refine gate_dst (N := 2) rfl ?_); refine box_event ?hg (N := 2) ?hd (cs := #[.int .u64 0, .int .i64 0, .int .i64 0, .slice none 0 0, .slice none 0 0, .slice none 0 0]) (t := 32) ?hr ?_; (case hd => rfl); (case hg => rfl); (case hr => first | (go_simp; done) | (go_simp; rfl)); intro g2 hg w105 hbox hb; have GE := Aside0.mk (show w104.heap.size ≤ g2 from Nat.le_of_eq hg.symm); have BP := Aside0.mk hb; have BK2 := Aside0.mk hbox; clear hbox hb hg)
    | ((with_reducible refine gate_store (p := 2) rfl ?_); refine st_row rfl 32 (.tmp 2) (.tmp 8) rfl g2 #[.int .u64 31, .int .i64 4, .int .i64 1, .slice none 0 0, .slice none 0 0, .slice A7 r30.length c7] (by rfl) (by rfl) 32 #[.int .u64 0, .int .i64 0, .int .i64 0, .slice none 0 0, .slice none 0 0, .slice none 0 0] BK2.out HZ2.out rfl (aw_one6 _ _ _) ?_; intro w106 hbk hbw hbo; have hb := hbw _ _ GE.out BP.out; clear BP GE hbw hbo; have m_HB := Aside0.mk (below_step HB.out hb); have m_BK1 := Aside0.mk (blk_below BK1.out hb); have m_C7 := Aside0.mk (Kd.C_below C7.out hb); clear HB; have HB := m_HB; clear m_HB; clear BK1; have BK1 := m_BK1; clear m_BK1; clear C7; have C7 := m_C7; clear m_C7; clear BK2; have BK2 := Aside0.mk hbk; clear hb hbk; (try clear q0 q1 q2); have q0 : w106.cell? ⟨g1, 0, none⟩ = some (.int .u64 31) := (blk_cell BK1.out 0).trans rfl; have q1 : w106.cell? ⟨g1, 1, none⟩ = some (.int .i64 4) := (blk_cell BK1.out 1).trans rfl; have q2 : w106.cell? ⟨g1, 2, none⟩ = some (.int .i64 1) := (blk_cell BK1.out 2).trans rfl)
    | ((with_reducible refine gate_dst (N := 10) rfl ?_); (try (refine gate_guard (by rfl) ?_; dsimp only)); refine Kd.R_lit (Kd.int .u64) _ 22 ?hg (N := 10) ?hd (xs := ([31] : List Int)) (inner := [.int .u64 31]) (ok := fun _ => True) (okp := fun _ => True) ?hr ?hp (fun _ hk => hk) trivial (Below.refl _ _) (Nat.le_refl _) (by simp) ?_; (case hd => rfl); (case hg => rfl); (case hr => first | (go_simp; done) | (go_simp; rfl)); (case hp => exact (Reps.one (show Kd.M (Kd.int .u64) _ _ _ 31 [.int .u64 31] from rfl) (Reps.none _ _))); intro v10 w107 ho hb hg_ hnew_; clear hg_ hnew_; (first | rw [← Ny31.out] at ho | (simp only [Int.reduceToNat] at ho; rw [← Ny31.out] at ho)); obtain ⟨A10, c10, e10⟩ := Kd.R_slice ho; subst e10; have C10 := Aside0.mk (Kd.R_reads' ho).2.2; have L10 := Aside0.mk (Kd.R_reads' ho).2.1; have HO10 := Aside0.mk (Kd.R_lower ho (below_size HB.out)); have m_HB := Aside0.mk (below_step HB.out hb); have m_BK1 := Aside0.mk (blk_below BK1.out hb); have m_C7 := Aside0.mk (Kd.C_below C7.out hb); have m_BK2 := Aside0.mk (blk_below BK2.out hb); clear HB; have HB := m_HB; clear m_HB; clear BK1; have BK1 := m_BK1; clear m_BK1; clear C7; have C7 := m_C7; clear m_C7; clear BK2; have BK2 := m_BK2; clear m_BK2; clear ho hb; (try clear q0 q1 q2); have q0 : w107.cell? ⟨g1, 0, none⟩ = some (.int .u64 31) := (blk_cell BK1.out 0).trans rfl; have q1 : w107.cell? ⟨g1, 1, none⟩ = some (.int .i64 4) := (blk_cell BK1.out 1).trans rfl; have q2 : w107.cell? ⟨g1, 2, none⟩ = some (.int .i64 1) := (blk_cell BK1.out 2).trans rfl)
    | ((with_reducible refine gate_dst (N := 11) rfl ?_); (try (refine gate_guard (by rfl) ?_; dsimp only)); refine Kd.N_lit (Kd.slice 22 (Kd.int .u64)) _ 33 ?hg (N' := 11) ?hd (xs := ([[], y31, [], []] : List (List Int))) (inner := [.slice none 0 0, .slice A10 y31.length c10, .slice none 0 0, .slice none 0 0]) (ok := fun _ => True) (okp := fun _ => True) ?hr ?hp (fun _ hk => hk) trivial (Below.refl _ _) (Nat.le_refl _) (by simp) ?_; (case hd => rfl); (case hg => rfl); (case hr => first | (go_simp; done) | (go_simp; rfl)); (case hp => exact (Reps.one (show Kd.FK (Kd.slice 22 (Kd.int .u64)) _ _ [] [.slice none 0 0] from (Kd.FK_slice_mk (Nat.le_refl _) (Kd.F_nil _ _ _))) (Reps.one (show Kd.FK (Kd.slice 22 (Kd.int .u64)) _ _ y31 [.slice A10 y31.length c10] from (Kd.FK_slice_mk (Kd.R_reads' HO10.out).2.1 (Kd.R_F HO10.out))) (Reps.one (show Kd.FK (Kd.slice 22 (Kd.int .u64)) _ _ [] [.slice none 0 0] from (Kd.FK_slice_mk (Nat.le_refl _) (Kd.F_nil _ _ _))) (Reps.one (show Kd.FK (Kd.slice 22 (Kd.int .u64)) _ _ [] [.slice none 0 0] from (Kd.FK_slice_mk (Nat.le_refl _) (Kd.F_nil _ _ _))) (Reps.none _ _)))))); intro v11 w108 ho hb hg_ hnew_; clear hg_ hnew_; (first | rw [← Nr31.out] at ho | (simp only [Int.reduceToNat] at ho; rw [← Nr31.out] at ho)); obtain ⟨A11, c11, e11⟩ := Kd.N_slice ho; subst e11; have C11 := Aside0.mk (Kd.N_reads' ho).2.2; have L11 := Aside0.mk (Kd.N_reads' ho).2.1; have m_HB := Aside0.mk (below_step HB.out hb); have m_BK1 := Aside0.mk (blk_below BK1.out hb); have m_C7 := Aside0.mk (Kd.C_below C7.out hb); have m_BK2 := Aside0.mk (blk_below BK2.out hb); clear HB; have HB := m_HB; clear m_HB; clear BK1; have BK1 := m_BK1; clear m_BK1; clear C7; have C7 := m_C7; clear m_C7; clear BK2; have BK2 := m_BK2; clear m_BK2; clear ho hb HO10; (try clear q0 q1 q2); have q0 : w108.cell? ⟨g1, 0, none⟩ = some (.int .u64 31) := (blk_cell BK1.out 0).trans rfl; have q1 : w108.cell? ⟨g1, 1, none⟩ = some (.int .i64 4) := (blk_cell BK1.out 1).trans rfl; have q2 : w108.cell? ⟨g1, 2, none⟩ = some (.int .i64 1) := (blk_cell BK1.out 2).trans rfl)
    | ((with_reducible refine gate_dst (N := 3) rfl ?_); refine box_event ?hg (N := 3) ?hd (cs := #[.int .u64 0, .int .i64 0, .int .i64 0, .slice none 0 0, .slice none 0 0, .slice none 0 0]) (t := 32) ?hr ?_; (case hd => rfl); (case hg => rfl); (case hr => first | (go_simp; done) | (go_simp; rfl)); intro g3 hg w109 hbox hb; have GE := Aside0.mk (show w108.heap.size ≤ g3 from Nat.le_of_eq hg.symm); have BP := Aside0.mk hb; have BK3 := Aside0.mk hbox; clear hbox hb hg)
    | ((with_reducible refine gate_store (p := 3) rfl ?_); refine st_row rfl 32 (.tmp 3) (.tmp 12) rfl g3 #[.int .u64 31, .int .i64 4, .int .i64 1, .slice none 0 0, .slice none 0 0, .slice A11 r31.length c11] (by rfl) (by rfl) 32 #[.int .u64 0, .int .i64 0, .int .i64 0, .slice none 0 0, .slice none 0 0, .slice none 0 0] BK3.out HZ2.out rfl (aw_one6 _ _ _) ?_; intro w110 hbk hbw hbo; have hb := hbw _ _ GE.out BP.out; clear BP GE hbw hbo; have m_HB := Aside0.mk (below_step HB.out hb); have m_BK1 := Aside0.mk (blk_below BK1.out hb); have m_C7 := Aside0.mk (Kd.C_below C7.out hb); have m_BK2 := Aside0.mk (blk_below BK2.out hb); have m_C11 := Aside0.mk (Kd.C_below C11.out hb); clear HB; have HB := m_HB; clear m_HB; clear BK1; have BK1 := m_BK1; clear m_BK1; clear C7; have C7 := m_C7; clear m_C7; clear BK2; have BK2 := m_BK2; clear m_BK2; clear C11; have C11 := m_C11; clear m_C11; clear BK3; have BK3 := Aside0.mk hbk; clear hb hbk; (try clear q0 q1 q2); have q0 : w110.cell? ⟨g1, 0, none⟩ = some (.int .u64 31) := (blk_cell BK1.out 0).trans rfl; have q1 : w110.cell? ⟨g1, 1, none⟩ = some (.int .i64 4) := (blk_cell BK1.out 1).trans rfl; have q2 : w110.cell? ⟨g1, 2, none⟩ = some (.int .i64 1) := (blk_cell BK1.out 2).trans rfl)
    | (go_at_call 10; (with_reducible refine (params_Valid.calls 31 4 1 true _ (Hx_below HX.out HB.out) aw_v1).mono ?_); rintro e w111 ⟨rfl, hb⟩; have m_HB := Aside0.mk (below_step HB.out hb); have m_BK1 := Aside0.mk (blk_below BK1.out hb); have m_C7 := Aside0.mk (Kd.C_below C7.out hb); have m_BK2 := Aside0.mk (blk_below BK2.out hb); have m_C11 := Aside0.mk (Kd.C_below C11.out hb); have m_BK3 := Aside0.mk (blk_below BK3.out hb); clear HB; have HB := m_HB; clear m_HB; clear BK1; have BK1 := m_BK1; clear m_BK1; clear C7; have C7 := m_C7; clear m_C7; clear BK2; have BK2 := m_BK2; clear m_BK2; clear C11; have C11 := m_C11; clear m_C11; clear BK3; have BK3 := m_BK3; clear m_BK3; clear hb; (try clear q0 q1 q2); have q0 : w111.cell? ⟨g1, 0, none⟩ = some (.int .u64 31) := (blk_cell BK1.out 0).trans rfl; have q1 : w111.cell? ⟨g1, 1, none⟩ = some (.int .i64 4) := (blk_cell BK1.out 1).trans rfl; have q2 : w111.cell? ⟨g1, 2, none⟩ = some (.int .i64 1) := (blk_cell BK1.out 2).trans rfl)
    | (go_at_call 10; (with_reducible refine (params_Valid.calls 31 6 2 false _ (Hx_below HX.out HB.out) aw_v2).mono ?_); rintro e w112 ⟨rfl, hb⟩; have m_HB := Aside0.mk (below_step HB.out hb); have m_BK1 := Aside0.mk (blk_below BK1.out hb); have m_C7 := Aside0.mk (Kd.C_below C7.out hb); have m_BK2 := Aside0.mk (blk_below BK2.out hb); have m_C11 := Aside0.mk (Kd.C_below C11.out hb); have m_BK3 := Aside0.mk (blk_below BK3.out hb); clear HB; have HB := m_HB; clear m_HB; clear BK1; have BK1 := m_BK1; clear m_BK1; clear C7; have C7 := m_C7; clear m_C7; clear BK2; have BK2 := m_BK2; clear m_BK2; clear C11; have C11 := m_C11; clear m_C11; clear BK3; have BK3 := m_BK3; clear m_BK3; clear hb; (try clear q0 q1 q2); have q0 : w112.cell? ⟨g1, 0, none⟩ = some (.int .u64 31) := (blk_cell BK1.out 0).trans rfl; have q1 : w112.cell? ⟨g1, 1, none⟩ = some (.int .i64 4) := (blk_cell BK1.out 1).trans rfl; have q2 : w112.cell? ⟨g1, 2, none⟩ = some (.int .i64 1) := (blk_cell BK1.out 2).trans rfl)
    | ((with_reducible refine gate_dst (N := 22) rfl ?_); (try (refine gate_guard (by rfl) ?_; dsimp only)); refine Kd.R_lit (Kd.int .i64) _ 3 ?hg (N := 22) ?hd (xs := ([3] : List Int)) (inner := [.int .i64 3]) (ok := fun _ => True) (okp := fun _ => True) ?hr ?hp (fun _ hk => hk) trivial (Below.refl _ _) (Nat.le_refl _) (by simp) ?_; (case hd => rfl); (case hg => rfl); (case hr => first | (go_simp; done) | (go_simp; rfl)); (case hp => exact (Reps.one (show Kd.M (Kd.int .i64) _ _ _ 3 [.int .i64 3] from rfl) (Reps.none _ _))); intro v22 w113 ho hb hg_ hnew_; clear hg_ hnew_; (first | rw [← Ny3.out] at ho | (simp only [Int.reduceToNat] at ho; rw [← Ny3.out] at ho)); obtain ⟨A22, c22, e22⟩ := Kd.R_slice ho; subst e22; have C22 := Aside0.mk (Kd.R_reads' ho).2.2; have L22 := Aside0.mk (Kd.R_reads' ho).2.1; have m_HB := Aside0.mk (below_step HB.out hb); have m_BK1 := Aside0.mk (blk_below BK1.out hb); have m_C7 := Aside0.mk (Kd.C_below C7.out hb); have m_BK2 := Aside0.mk (blk_below BK2.out hb); have m_C11 := Aside0.mk (Kd.C_below C11.out hb); have m_BK3 := Aside0.mk (blk_below BK3.out hb); clear HB; have HB := m_HB; clear m_HB; clear BK1; have BK1 := m_BK1; clear m_BK1; clear C7; have C7 := m_C7; clear m_C7; clear BK2; have BK2 := m_BK2; clear m_BK2; clear C11; have C11 := m_C11; clear m_C11; clear BK3; have BK3 := m_BK3; clear m_BK3; clear ho hb; (try clear q0 q1 q2); have q0 : w113.cell? ⟨g1, 0, none⟩ = some (.int .u64 31) := (blk_cell BK1.out 0).trans rfl; have q1 : w113.cell? ⟨g1, 1, none⟩ = some (.int .i64 4) := (blk_cell BK1.out 1).trans rfl; have q2 : w113.cell? ⟨g1, 2, none⟩ = some (.int .i64 1) := (blk_cell BK1.out 2).trans rfl)
    | (go_at_call 12; (with_reducible refine (params_ValidCoalition.calls 20 31 4 1 A22 c22 y3 true _ C22.out L22.out (Hx_below HX.out HB.out) Fc1.out).mono ?_); rintro e w114 ⟨rfl, hb⟩; have m_HB := Aside0.mk (below_step HB.out hb); have m_BK1 := Aside0.mk (blk_below BK1.out hb); have m_C7 := Aside0.mk (Kd.C_below C7.out hb); have m_BK2 := Aside0.mk (blk_below BK2.out hb); have m_C11 := Aside0.mk (Kd.C_below C11.out hb); have m_BK3 := Aside0.mk (blk_below BK3.out hb); clear HB; have HB := m_HB; clear m_HB; clear BK1; have BK1 := m_BK1; clear m_BK1; clear C7; have C7 := m_C7; clear m_C7; clear BK2; have BK2 := m_BK2; clear m_BK2; clear C11; have C11 := m_C11; clear m_C11; clear BK3; have BK3 := m_BK3; clear m_BK3; clear hb; (try clear q0 q1 q2); have q0 : w114.cell? ⟨g1, 0, none⟩ = some (.int .u64 31) := (blk_cell BK1.out 0).trans rfl; have q1 : w114.cell? ⟨g1, 1, none⟩ = some (.int .i64 4) := (blk_cell BK1.out 1).trans rfl; have q2 : w114.cell? ⟨g1, 2, none⟩ = some (.int .i64 1) := (blk_cell BK1.out 2).trans rfl)
    | ((with_reducible refine gate_dst (N := 27) rfl ?_); (try (refine gate_guard (by rfl) ?_; dsimp only)); refine Kd.R_lit (Kd.int .i64) _ 3 ?hg (N := 27) ?hd (xs := ([3, 4] : List Int)) (inner := [.int .i64 3, .int .i64 4]) (ok := fun _ => True) (okp := fun _ => True) ?hr ?hp (fun _ hk => hk) trivial (Below.refl _ _) (Nat.le_refl _) (by simp) ?_; (case hd => rfl); (case hg => rfl); (case hr => first | (go_simp; done) | (go_simp; rfl)); (case hp => exact (Reps.one (show Kd.M (Kd.int .i64) _ _ _ 3 [.int .i64 3] from rfl) (Reps.one (show Kd.M (Kd.int .i64) _ _ _ 4 [.int .i64 4] from rfl) (Reps.none _ _)))); intro v27 w115 ho hb hg_ hnew_; clear hg_ hnew_; (first | rw [← Ny34.out] at ho | (simp only [Int.reduceToNat] at ho; rw [← Ny34.out] at ho)); obtain ⟨A27, c27, e27⟩ := Kd.R_slice ho; subst e27; have C27 := Aside0.mk (Kd.R_reads' ho).2.2; have L27 := Aside0.mk (Kd.R_reads' ho).2.1; have m_HB := Aside0.mk (below_step HB.out hb); have m_BK1 := Aside0.mk (blk_below BK1.out hb); have m_C7 := Aside0.mk (Kd.C_below C7.out hb); have m_BK2 := Aside0.mk (blk_below BK2.out hb); have m_C11 := Aside0.mk (Kd.C_below C11.out hb); have m_BK3 := Aside0.mk (blk_below BK3.out hb); clear HB; have HB := m_HB; clear m_HB; clear BK1; have BK1 := m_BK1; clear m_BK1; clear C7; have C7 := m_C7; clear m_C7; clear BK2; have BK2 := m_BK2; clear m_BK2; clear C11; have C11 := m_C11; clear m_C11; clear BK3; have BK3 := m_BK3; clear m_BK3; clear ho hb; (try clear q0 q1 q2); have q0 : w115.cell? ⟨g1, 0, none⟩ = some (.int .u64 31) := (blk_cell BK1.out 0).trans rfl; have q1 : w115.cell? ⟨g1, 1, none⟩ = some (.int .i64 4) := (blk_cell BK1.out 1).trans rfl; have q2 : w115.cell? ⟨g1, 2, none⟩ = some (.int .i64 1) := (blk_cell BK1.out 2).trans rfl)
    | (go_at_call 12; (with_reducible refine (params_ValidCoalition.calls 20 31 4 1 A27 c27 y34 false _ C27.out L27.out (Hx_below HX.out HB.out) Fc2.out).mono ?_); rintro e w116 ⟨rfl, hb⟩; have m_HB := Aside0.mk (below_step HB.out hb); have m_BK1 := Aside0.mk (blk_below BK1.out hb); have m_C7 := Aside0.mk (Kd.C_below C7.out hb); have m_BK2 := Aside0.mk (blk_below BK2.out hb); have m_C11 := Aside0.mk (Kd.C_below C11.out hb); have m_BK3 := Aside0.mk (blk_below BK3.out hb); clear HB; have HB := m_HB; clear m_HB; clear BK1; have BK1 := m_BK1; clear m_BK1; clear C7; have C7 := m_C7; clear m_C7; clear BK2; have BK2 := m_BK2; clear m_BK2; clear C11; have C11 := m_C11; clear m_C11; clear BK3; have BK3 := m_BK3; clear m_BK3; clear hb; (try clear q0 q1 q2); have q0 : w116.cell? ⟨g1, 0, none⟩ = some (.int .u64 31) := (blk_cell BK1.out 0).trans rfl; have q1 : w116.cell? ⟨g1, 1, none⟩ = some (.int .i64 4) := (blk_cell BK1.out 1).trans rfl; have q2 : w116.cell? ⟨g1, 2, none⟩ = some (.int .i64 1) := (blk_cell BK1.out 2).trans rfl)
    | (go_at_call 16; (refine (params_ExtendCoalition.calls 31 4 1 none 0 [] y1 _ (Kd.C_nil _ _) (Nat.le_refl _) Fe.out).mono ?_); rintro e w117 ⟨v33, rfl, ho, hb⟩; obtain ⟨A33, c33, e33⟩ := Kd.R_slice ho; subst e33; have C33 := Aside0.mk (Kd.R_reads' ho).2.2; have L33 := Aside0.mk (Kd.R_reads' ho).2.1; clear ho; have m_HB := Aside0.mk (below_step HB.out hb); have m_BK1 := Aside0.mk (blk_below BK1.out hb); have m_C7 := Aside0.mk (Kd.C_below C7.out hb); have m_BK2 := Aside0.mk (blk_below BK2.out hb); have m_C11 := Aside0.mk (Kd.C_below C11.out hb); have m_BK3 := Aside0.mk (blk_below BK3.out hb); clear HB; have HB := m_HB; clear m_HB; clear BK1; have BK1 := m_BK1; clear m_BK1; clear C7; have C7 := m_C7; clear m_C7; clear BK2; have BK2 := m_BK2; clear m_BK2; clear C11; have C11 := m_C11; clear m_C11; clear BK3; have BK3 := m_BK3; clear m_BK3; clear hb; (try clear q0 q1 q2); have q0 : w117.cell? ⟨g1, 0, none⟩ = some (.int .u64 31) := (blk_cell BK1.out 0).trans rfl; have q1 : w117.cell? ⟨g1, 1, none⟩ = some (.int .i64 4) := (blk_cell BK1.out 1).trans rfl; have q2 : w117.cell? ⟨g1, 2, none⟩ = some (.int .i64 1) := (blk_cell BK1.out 2).trans rfl)
    | ((with_reducible refine gate_dst (N := 34) rfl ?_); (try (refine gate_guard (by rfl) ?_; dsimp only)); refine Kd.R_lit (Kd.int .i64) _ 3 ?hg (N := 34) ?hd (xs := ([1] : List Int)) (inner := [.int .i64 1]) (ok := fun _ => True) (okp := fun _ => True) ?hr ?hp (fun _ hk => hk) trivial (Below.refl _ _) (Nat.le_refl _) (by simp) ?_; (case hd => rfl); (case hg => rfl); (case hr => first | (go_simp; done) | (go_simp; rfl)); (case hp => exact (Reps.one (show Kd.M (Kd.int .i64) _ _ _ 1 [.int .i64 1] from rfl) (Reps.none _ _))); intro v34 w118 ho hb hg_ hnew_; clear hg_ hnew_; (first | rw [← Ny1.out] at ho | (simp only [Int.reduceToNat] at ho; rw [← Ny1.out] at ho)); obtain ⟨A34, c34, e34⟩ := Kd.R_slice ho; subst e34; have C34 := Aside0.mk (Kd.R_reads' ho).2.2; have L34 := Aside0.mk (Kd.R_reads' ho).2.1; have m_HB := Aside0.mk (below_step HB.out hb); have m_BK1 := Aside0.mk (blk_below BK1.out hb); have m_C7 := Aside0.mk (Kd.C_below C7.out hb); have m_BK2 := Aside0.mk (blk_below BK2.out hb); have m_C11 := Aside0.mk (Kd.C_below C11.out hb); have m_BK3 := Aside0.mk (blk_below BK3.out hb); have m_C33 := Aside0.mk (Kd.C_below C33.out hb); clear HB; have HB := m_HB; clear m_HB; clear BK1; have BK1 := m_BK1; clear m_BK1; clear C7; have C7 := m_C7; clear m_C7; clear BK2; have BK2 := m_BK2; clear m_BK2; clear C11; have C11 := m_C11; clear m_C11; clear BK3; have BK3 := m_BK3; clear m_BK3; clear C33; have C33 := m_C33; clear m_C33; clear ho hb; (try clear q0 q1 q2); have q0 : w118.cell? ⟨g1, 0, none⟩ = some (.int .u64 31) := (blk_cell BK1.out 0).trans rfl; have q1 : w118.cell? ⟨g1, 1, none⟩ = some (.int .i64 4) := (blk_cell BK1.out 1).trans rfl; have q2 : w118.cell? ⟨g1, 2, none⟩ = some (.int .i64 1) := (blk_cell BK1.out 2).trans rfl)
    | (go_at_call 18; (with_reducible refine (privityref12_Ints.calls 20 A33 c33 y1 A34 c34 y1 true _ C33.out L33.out C34.out L34.out Fi1.out).mono ?_); rintro e w119 ⟨rfl, hd⟩; have hb := drawn_below hd; clear hd; have m_HB := Aside0.mk (below_step HB.out hb); have m_BK1 := Aside0.mk (blk_below BK1.out hb); have m_C7 := Aside0.mk (Kd.C_below C7.out hb); have m_BK2 := Aside0.mk (blk_below BK2.out hb); have m_C11 := Aside0.mk (Kd.C_below C11.out hb); have m_BK3 := Aside0.mk (blk_below BK3.out hb); clear HB; have HB := m_HB; clear m_HB; clear BK1; have BK1 := m_BK1; clear m_BK1; clear C7; have C7 := m_C7; clear m_C7; clear BK2; have BK2 := m_BK2; clear m_BK2; clear C11; have C11 := m_C11; clear m_C11; clear BK3; have BK3 := m_BK3; clear m_BK3; clear hb; (try clear q0 q1 q2); have q0 : w119.cell? ⟨g1, 0, none⟩ = some (.int .u64 31) := (blk_cell BK1.out 0).trans rfl; have q1 : w119.cell? ⟨g1, 1, none⟩ = some (.int .i64 4) := (blk_cell BK1.out 1).trans rfl; have q2 : w119.cell? ⟨g1, 2, none⟩ = some (.int .i64 1) := (blk_cell BK1.out 2).trans rfl)
    | ((with_reducible refine gate_dst (N := 39) rfl ?_); (try (refine gate_guard (by rfl) ?_; dsimp only)); refine Kd.R_lit (Kd.int .i64) _ 3 ?hg (N := 39) ?hd (xs := ([3] : List Int)) (inner := [.int .i64 3]) (ok := fun _ => True) (okp := fun _ => True) ?hr ?hp (fun _ hk => hk) trivial (Below.refl _ _) (Nat.le_refl _) (by simp) ?_; (case hd => rfl); (case hg => rfl); (case hr => first | (go_simp; done) | (go_simp; rfl)); (case hp => exact (Reps.one (show Kd.M (Kd.int .i64) _ _ _ 3 [.int .i64 3] from rfl) (Reps.none _ _))); intro v39 w120 ho hb hg_ hnew_; clear hg_ hnew_; (first | rw [← Ny3.out] at ho | (simp only [Int.reduceToNat] at ho; rw [← Ny3.out] at ho)); obtain ⟨A39, c39, e39⟩ := Kd.R_slice ho; subst e39; have C39 := Aside0.mk (Kd.R_reads' ho).2.2; have L39 := Aside0.mk (Kd.R_reads' ho).2.1; have m_HB := Aside0.mk (below_step HB.out hb); have m_BK1 := Aside0.mk (blk_below BK1.out hb); have m_C7 := Aside0.mk (Kd.C_below C7.out hb); have m_BK2 := Aside0.mk (blk_below BK2.out hb); have m_C11 := Aside0.mk (Kd.C_below C11.out hb); have m_BK3 := Aside0.mk (blk_below BK3.out hb); clear HB; have HB := m_HB; clear m_HB; clear BK1; have BK1 := m_BK1; clear m_BK1; clear C7; have C7 := m_C7; clear m_C7; clear BK2; have BK2 := m_BK2; clear m_BK2; clear C11; have C11 := m_C11; clear m_C11; clear BK3; have BK3 := m_BK3; clear m_BK3; clear ho hb; (try clear q0 q1 q2); have q0 : w120.cell? ⟨g1, 0, none⟩ = some (.int .u64 31) := (blk_cell BK1.out 0).trans rfl; have q1 : w120.cell? ⟨g1, 1, none⟩ = some (.int .i64 4) := (blk_cell BK1.out 1).trans rfl; have q2 : w120.cell? ⟨g1, 2, none⟩ = some (.int .i64 1) := (blk_cell BK1.out 2).trans rfl)
    | (go_at_call 17; (with_reducible refine (params_HonestParties.calls 31 4 1 A39 c39 y3 y124 _ C39.out L39.out Fh.out).mono ?_); rintro e w121 ⟨v40, rfl, ho, hb⟩; obtain ⟨A40, c40, e40⟩ := Kd.R_slice ho; subst e40; have C40 := Aside0.mk (Kd.R_reads' ho).2.2; have L40 := Aside0.mk (Kd.R_reads' ho).2.1; clear ho; have m_HB := Aside0.mk (below_step HB.out hb); have m_BK1 := Aside0.mk (blk_below BK1.out hb); have m_C7 := Aside0.mk (Kd.C_below C7.out hb); have m_BK2 := Aside0.mk (blk_below BK2.out hb); have m_C11 := Aside0.mk (Kd.C_below C11.out hb); have m_BK3 := Aside0.mk (blk_below BK3.out hb); clear HB; have HB := m_HB; clear m_HB; clear BK1; have BK1 := m_BK1; clear m_BK1; clear C7; have C7 := m_C7; clear m_C7; clear BK2; have BK2 := m_BK2; clear m_BK2; clear C11; have C11 := m_C11; clear m_C11; clear BK3; have BK3 := m_BK3; clear m_BK3; clear hb; (try clear q0 q1 q2); have q0 : w121.cell? ⟨g1, 0, none⟩ = some (.int .u64 31) := (blk_cell BK1.out 0).trans rfl; have q1 : w121.cell? ⟨g1, 1, none⟩ = some (.int .i64 4) := (blk_cell BK1.out 1).trans rfl; have q2 : w121.cell? ⟨g1, 2, none⟩ = some (.int .i64 1) := (blk_cell BK1.out 2).trans rfl)
    | ((with_reducible refine gate_dst (N := 41) rfl ?_); (try (refine gate_guard (by rfl) ?_; dsimp only)); refine Kd.R_lit (Kd.int .i64) _ 3 ?hg (N := 41) ?hd (xs := ([1, 2, 4] : List Int)) (inner := [.int .i64 1, .int .i64 2, .int .i64 4]) (ok := fun _ => True) (okp := fun _ => True) ?hr ?hp (fun _ hk => hk) trivial (Below.refl _ _) (Nat.le_refl _) (by simp) ?_; (case hd => rfl); (case hg => rfl); (case hr => first | (go_simp; done) | (go_simp; rfl)); (case hp => exact (Reps.one (show Kd.M (Kd.int .i64) _ _ _ 1 [.int .i64 1] from rfl) (Reps.one (show Kd.M (Kd.int .i64) _ _ _ 2 [.int .i64 2] from rfl) (Reps.one (show Kd.M (Kd.int .i64) _ _ _ 4 [.int .i64 4] from rfl) (Reps.none _ _))))); intro v41 w122 ho hb hg_ hnew_; clear hg_ hnew_; (first | rw [← Ny124.out] at ho | (simp only [Int.reduceToNat] at ho; rw [← Ny124.out] at ho)); obtain ⟨A41, c41, e41⟩ := Kd.R_slice ho; subst e41; have C41 := Aside0.mk (Kd.R_reads' ho).2.2; have L41 := Aside0.mk (Kd.R_reads' ho).2.1; have m_HB := Aside0.mk (below_step HB.out hb); have m_BK1 := Aside0.mk (blk_below BK1.out hb); have m_C7 := Aside0.mk (Kd.C_below C7.out hb); have m_BK2 := Aside0.mk (blk_below BK2.out hb); have m_C11 := Aside0.mk (Kd.C_below C11.out hb); have m_BK3 := Aside0.mk (blk_below BK3.out hb); have m_C40 := Aside0.mk (Kd.C_below C40.out hb); clear HB; have HB := m_HB; clear m_HB; clear BK1; have BK1 := m_BK1; clear m_BK1; clear C7; have C7 := m_C7; clear m_C7; clear BK2; have BK2 := m_BK2; clear m_BK2; clear C11; have C11 := m_C11; clear m_C11; clear BK3; have BK3 := m_BK3; clear m_BK3; clear C40; have C40 := m_C40; clear m_C40; clear ho hb; (try clear q0 q1 q2); have q0 : w122.cell? ⟨g1, 0, none⟩ = some (.int .u64 31) := (blk_cell BK1.out 0).trans rfl; have q1 : w122.cell? ⟨g1, 1, none⟩ = some (.int .i64 4) := (blk_cell BK1.out 1).trans rfl; have q2 : w122.cell? ⟨g1, 2, none⟩ = some (.int .i64 1) := (blk_cell BK1.out 2).trans rfl)
    | (go_at_call 18; (with_reducible refine (privityref12_Ints.calls 20 A40 c40 y124 A41 c41 y124 true _ C40.out L40.out C41.out L41.out Fi2.out).mono ?_); rintro e w123 ⟨rfl, hd⟩; have hb := drawn_below hd; clear hd; have m_HB := Aside0.mk (below_step HB.out hb); have m_BK1 := Aside0.mk (blk_below BK1.out hb); have m_C7 := Aside0.mk (Kd.C_below C7.out hb); have m_BK2 := Aside0.mk (blk_below BK2.out hb); have m_C11 := Aside0.mk (Kd.C_below C11.out hb); have m_BK3 := Aside0.mk (blk_below BK3.out hb); clear HB; have HB := m_HB; clear m_HB; clear BK1; have BK1 := m_BK1; clear m_BK1; clear C7; have C7 := m_C7; clear m_C7; clear BK2; have BK2 := m_BK2; clear m_BK2; clear C11; have C11 := m_C11; clear m_C11; clear BK3; have BK3 := m_BK3; clear m_BK3; clear hb; (try clear q0 q1 q2); have q0 : w123.cell? ⟨g1, 0, none⟩ = some (.int .u64 31) := (blk_cell BK1.out 0).trans rfl; have q1 : w123.cell? ⟨g1, 1, none⟩ = some (.int .i64 4) := (blk_cell BK1.out 1).trans rfl; have q2 : w123.cell? ⟨g1, 2, none⟩ = some (.int .i64 1) := (blk_cell BK1.out 2).trans rfl)
    | ((with_reducible refine gate_dst (N := 46) rfl ?_); (try (refine gate_guard (by rfl) ?_; dsimp only)); refine Kd.R_lit (Kd.int .i64) _ 3 ?hg (N := 46) ?hd (xs := ([3] : List Int)) (inner := [.int .i64 3]) (ok := fun _ => True) (okp := fun _ => True) ?hr ?hp (fun _ hk => hk) trivial (Below.refl _ _) (Nat.le_refl _) (by simp) ?_; (case hd => rfl); (case hg => rfl); (case hr => first | (go_simp; done) | (go_simp; rfl)); (case hp => exact (Reps.one (show Kd.M (Kd.int .i64) _ _ _ 3 [.int .i64 3] from rfl) (Reps.none _ _))); intro v46 w124 ho hb hg_ hnew_; clear hg_ hnew_; (first | rw [← Ny3.out] at ho | (simp only [Int.reduceToNat] at ho; rw [← Ny3.out] at ho)); obtain ⟨A46, c46, e46⟩ := Kd.R_slice ho; subst e46; have C46 := Aside0.mk (Kd.R_reads' ho).2.2; have L46 := Aside0.mk (Kd.R_reads' ho).2.1; have m_HB := Aside0.mk (below_step HB.out hb); have m_BK1 := Aside0.mk (blk_below BK1.out hb); have m_C7 := Aside0.mk (Kd.C_below C7.out hb); have m_BK2 := Aside0.mk (blk_below BK2.out hb); have m_C11 := Aside0.mk (Kd.C_below C11.out hb); have m_BK3 := Aside0.mk (blk_below BK3.out hb); clear HB; have HB := m_HB; clear m_HB; clear BK1; have BK1 := m_BK1; clear m_BK1; clear C7; have C7 := m_C7; clear m_C7; clear BK2; have BK2 := m_BK2; clear m_BK2; clear C11; have C11 := m_C11; clear m_C11; clear BK3; have BK3 := m_BK3; clear m_BK3; clear ho hb; (try clear q0 q1 q2); have q0 : w124.cell? ⟨g1, 0, none⟩ = some (.int .u64 31) := (blk_cell BK1.out 0).trans rfl; have q1 : w124.cell? ⟨g1, 1, none⟩ = some (.int .i64 4) := (blk_cell BK1.out 1).trans rfl; have q2 : w124.cell? ⟨g1, 2, none⟩ = some (.int .i64 1) := (blk_cell BK1.out 2).trans rfl)
    | (go_at_call 23; (with_reducible refine (params_VanishingPolynomial.calls 40 31 4 1 A46 c46 y3 y110 _ C46.out L46.out Fp.out).mono ?_); rintro e w125 ⟨v47, rfl, ho, hb⟩; obtain ⟨A47, c47, e47⟩ := Kd.R_slice ho; subst e47; have C47 := Aside0.mk (Kd.R_reads' ho).2.2; have L47 := Aside0.mk (Kd.R_reads' ho).2.1; clear ho; have m_HB := Aside0.mk (below_step HB.out hb); have m_BK1 := Aside0.mk (blk_below BK1.out hb); have m_C7 := Aside0.mk (Kd.C_below C7.out hb); have m_BK2 := Aside0.mk (blk_below BK2.out hb); have m_C11 := Aside0.mk (Kd.C_below C11.out hb); have m_BK3 := Aside0.mk (blk_below BK3.out hb); clear HB; have HB := m_HB; clear m_HB; clear BK1; have BK1 := m_BK1; clear m_BK1; clear C7; have C7 := m_C7; clear m_C7; clear BK2; have BK2 := m_BK2; clear m_BK2; clear C11; have C11 := m_C11; clear m_C11; clear BK3; have BK3 := m_BK3; clear m_BK3; clear hb; (try clear q0 q1 q2); have q0 : w125.cell? ⟨g1, 0, none⟩ = some (.int .u64 31) := (blk_cell BK1.out 0).trans rfl; have q1 : w125.cell? ⟨g1, 1, none⟩ = some (.int .i64 4) := (blk_cell BK1.out 1).trans rfl; have q2 : w125.cell? ⟨g1, 2, none⟩ = some (.int .i64 1) := (blk_cell BK1.out 2).trans rfl)
    | ((with_reducible refine gate_dst (N := 48) rfl ?_); (try (refine gate_guard (by rfl) ?_; dsimp only)); refine Kd.R_lit (Kd.int .u64) _ 22 ?hg (N := 48) ?hd (xs := ([1, 10] : List Int)) (inner := [.int .u64 1, .int .u64 10]) (ok := fun _ => True) (okp := fun _ => True) ?hr ?hp (fun _ hk => hk) trivial (Below.refl _ _) (Nat.le_refl _) (by simp) ?_; (case hd => rfl); (case hg => rfl); (case hr => first | (go_simp; done) | (go_simp; rfl)); (case hp => exact (Reps.one (show Kd.M (Kd.int .u64) _ _ _ 1 [.int .u64 1] from rfl) (Reps.one (show Kd.M (Kd.int .u64) _ _ _ 10 [.int .u64 10] from rfl) (Reps.none _ _)))); intro v48 w126 ho hb hg_ hnew_; clear hg_ hnew_; (first | rw [← Ny110.out] at ho | (simp only [Int.reduceToNat] at ho; rw [← Ny110.out] at ho)); obtain ⟨A48, c48, e48⟩ := Kd.R_slice ho; subst e48; have C48 := Aside0.mk (Kd.R_reads' ho).2.2; have L48 := Aside0.mk (Kd.R_reads' ho).2.1; have m_HB := Aside0.mk (below_step HB.out hb); have m_BK1 := Aside0.mk (blk_below BK1.out hb); have m_C7 := Aside0.mk (Kd.C_below C7.out hb); have m_BK2 := Aside0.mk (blk_below BK2.out hb); have m_C11 := Aside0.mk (Kd.C_below C11.out hb); have m_BK3 := Aside0.mk (blk_below BK3.out hb); have m_C47 := Aside0.mk (Kd.C_below C47.out hb); clear HB; have HB := m_HB; clear m_HB; clear BK1; have BK1 := m_BK1; clear m_BK1; clear C7; have C7 := m_C7; clear m_C7; clear BK2; have BK2 := m_BK2; clear m_BK2; clear C11; have C11 := m_C11; clear m_C11; clear BK3; have BK3 := m_BK3; clear m_BK3; clear C47; have C47 := m_C47; clear m_C47; clear ho hb; (try clear q0 q1 q2); have q0 : w126.cell? ⟨g1, 0, none⟩ = some (.int .u64 31) := (blk_cell BK1.out 0).trans rfl; have q1 : w126.cell? ⟨g1, 1, none⟩ = some (.int .i64 4) := (blk_cell BK1.out 1).trans rfl; have q2 : w126.cell? ⟨g1, 2, none⟩ = some (.int .i64 1) := (blk_cell BK1.out 2).trans rfl)
    | (go_at_call 22; (with_reducible refine (privityref05_Same.calls 20 A47 c47 y110 A48 c48 y110 true _ C47.out L47.out C48.out L48.out Fs.out).mono ?_); rintro e w127 ⟨rfl, hd⟩; have hb := drawn_below hd; clear hd; have m_HB := Aside0.mk (below_step HB.out hb); have m_BK1 := Aside0.mk (blk_below BK1.out hb); have m_C7 := Aside0.mk (Kd.C_below C7.out hb); have m_BK2 := Aside0.mk (blk_below BK2.out hb); have m_C11 := Aside0.mk (Kd.C_below C11.out hb); have m_BK3 := Aside0.mk (blk_below BK3.out hb); clear HB; have HB := m_HB; clear m_HB; clear BK1; have BK1 := m_BK1; clear m_BK1; clear C7; have C7 := m_C7; clear m_C7; clear BK2; have BK2 := m_BK2; clear m_BK2; clear C11; have C11 := m_C11; clear m_C11; clear BK3; have BK3 := m_BK3; clear m_BK3; clear hb; (try clear q0 q1 q2); have q0 : w127.cell? ⟨g1, 0, none⟩ = some (.int .u64 31) := (blk_cell BK1.out 0).trans rfl; have q1 : w127.cell? ⟨g1, 1, none⟩ = some (.int .i64 4) := (blk_cell BK1.out 1).trans rfl; have q2 : w127.cell? ⟨g1, 2, none⟩ = some (.int .i64 1) := (blk_cell BK1.out 2).trans rfl; (try clear u0 u1 u2 u3 u4 u5); have u0 : w127.cell? ⟨g2, 0, none⟩ = some (.int .u64 31) := (blk_cell BK2.out 0).trans rfl; have u1 : w127.cell? ⟨g2, 1, none⟩ = some (.int .i64 4) := (blk_cell BK2.out 1).trans rfl; have u2 : w127.cell? ⟨g2, 2, none⟩ = some (.int .i64 1) := (blk_cell BK2.out 2).trans rfl; have u3 : w127.cell? ⟨g2, 3, none⟩ = some (.slice none 0 0) := (blk_cell BK2.out 3).trans rfl; have u4 : w127.cell? ⟨g2, 4, none⟩ = some (.slice none 0 0) := (blk_cell BK2.out 4).trans rfl; have u5 : w127.cell? ⟨g2, 5, none⟩ = some (.slice A7 r30.length c7) := (blk_cell BK2.out 5).trans rfl)
    | (go_at_call 14; (with_reducible refine (aw_scn A7 c7 r30 true L7.out Fw.out _ (Hx_below HX.out HB.out) C7.out).mono ?_); rintro e w128 ⟨rfl, hb⟩; have m_HB := Aside0.mk (below_step HB.out hb); have m_BK1 := Aside0.mk (blk_below BK1.out hb); have m_C7 := Aside0.mk (Kd.C_below C7.out hb); have m_BK2 := Aside0.mk (blk_below BK2.out hb); have m_C11 := Aside0.mk (Kd.C_below C11.out hb); have m_BK3 := Aside0.mk (blk_below BK3.out hb); clear HB; have HB := m_HB; clear m_HB; clear BK1; have BK1 := m_BK1; clear m_BK1; clear C7; have C7 := m_C7; clear m_C7; clear BK2; have BK2 := m_BK2; clear m_BK2; clear C11; have C11 := m_C11; clear m_C11; clear BK3; have BK3 := m_BK3; clear m_BK3; clear hb; (try clear q0 q1 q2); have q0 : w128.cell? ⟨g1, 0, none⟩ = some (.int .u64 31) := (blk_cell BK1.out 0).trans rfl; have q1 : w128.cell? ⟨g1, 1, none⟩ = some (.int .i64 4) := (blk_cell BK1.out 1).trans rfl; have q2 : w128.cell? ⟨g1, 2, none⟩ = some (.int .i64 1) := (blk_cell BK1.out 2).trans rfl; (try clear x0 x1 x2 x3 x4 x5); have x0 : w128.cell? ⟨g3, 0, none⟩ = some (.int .u64 31) := (blk_cell BK3.out 0).trans rfl; have x1 : w128.cell? ⟨g3, 1, none⟩ = some (.int .i64 4) := (blk_cell BK3.out 1).trans rfl; have x2 : w128.cell? ⟨g3, 2, none⟩ = some (.int .i64 1) := (blk_cell BK3.out 2).trans rfl; have x3 : w128.cell? ⟨g3, 3, none⟩ = some (.slice none 0 0) := (blk_cell BK3.out 3).trans rfl; have x4 : w128.cell? ⟨g3, 4, none⟩ = some (.slice none 0 0) := (blk_cell BK3.out 4).trans rfl; have x5 : w128.cell? ⟨g3, 5, none⟩ = some (.slice A11 r31.length c11) := (blk_cell BK3.out 5).trans rfl)
    | (go_at_call 14; (with_reducible refine (aw_scn A11 c11 r31 false L11.out Fx.out _ (Hx_below HX.out HB.out) C11.out).mono ?_); rintro e w129 ⟨rfl, hb⟩; have m_HB := Aside0.mk (below_step HB.out hb); have m_BK1 := Aside0.mk (blk_below BK1.out hb); have m_C7 := Aside0.mk (Kd.C_below C7.out hb); have m_BK2 := Aside0.mk (blk_below BK2.out hb); have m_C11 := Aside0.mk (Kd.C_below C11.out hb); have m_BK3 := Aside0.mk (blk_below BK3.out hb); clear HB; have HB := m_HB; clear m_HB; clear BK1; have BK1 := m_BK1; clear m_BK1; clear C7; have C7 := m_C7; clear m_C7; clear BK2; have BK2 := m_BK2; clear m_BK2; clear C11; have C11 := m_C11; clear m_C11; clear BK3; have BK3 := m_BK3; clear m_BK3; clear hb; (try clear q0 q1 q2); have q0 : w129.cell? ⟨g1, 0, none⟩ = some (.int .u64 31) := (blk_cell BK1.out 0).trans rfl; have q1 : w129.cell? ⟨g1, 1, none⟩ = some (.int .i64 4) := (blk_cell BK1.out 1).trans rfl; have q2 : w129.cell? ⟨g1, 2, none⟩ = some (.int .i64 1) := (blk_cell BK1.out 2).trans rfl))
  first | go_ret | ((try simp only [Exit.inBlock, Exit.then]); refine bodyPost_ret (results_tmp rfl _ _ _) rfl ?_)
  exact ⟨rfl, HB.out⟩
def privitylaw12_awake.f : Option Bool := some true
theorem privitylaw12_awake.calls (r : Bool) (w : World) (hx : Hx w) (h : privitylaw12_awake.f = some r) : Calls Tryd.prog 9 #[] w fun e w' => e = .returned (.bool r) ∧ Below w.heap.size w w' := by
  rw [← Option.some.inj h]
  exact awake_walk w hx
end Go.Proofs.YtakaonojfpkhnaaDoor.Hw
end
section
/- Printed by a program of this seat (the kit's printer, with the functions that were proved by hand given to it). What stands here: the functions that the statements reach, as plain functions, and that the Go code computes them. -/
namespace Go.Proofs.YtakaonojfpkhnaaDoor.Pr
open Go.RowKit Go.Proofs.YtakaonojfpkhnaaDoorW.PrintWords Go.Proofs.YtakaonojfpkhnaaDoorW.PrintLast Go.Proofs.YtakaonojfpkhnaaDoorW.PrintMore
attribute [local go_sem] max2_int min2_int max_two min_two max_three min_three max_four min_four   -- for this text's walks alone
set_option linter.unusedVariables false
set_option linter.unusedSimpArgs false

open Go.Proofs.YtakaonojfpkhnaaDoor.Hw
/-! ### privitylaw12_ParamsScenarioWithExtraDeviation: function 7 -/
def privitylaw12_ParamsScenarioWithExtraDeviation.f (k : Nat) (a0_0 : Int) (a0_1 : Int) (a0_2 : Int) (l0_3 : List Int) (l0_4 : List (S42)) (l0_5 : List (List Int)) (a1_0 : Int) (a1_1 : Int) (a1_2 : Int) (a1_3 : Int) (a1_4 : Int) (a1_5 : Int) (a1_6 : Int) (a1_7 : Int) : Option (Bool) := (privitylaw12_awake.f).bind fun t292 => (if t292 = true then ((privityref12_Light.f k a0_0 a0_1 a0_2 l0_3 l0_4 l0_5 13 20 300).bind fun t293 => (if t293 = true then ((some (([] : List (S42)) : List (S42))).bind fun y295 => (if y295.length + l0_4.length < 2199023255552 then ((some (y295 ++ l0_4 : List (S42))).bind fun y298 => ((some (([(⟨a1_0, a1_1, a1_2, a1_3, a1_4, a1_5, a1_6, a1_7⟩ : S42)] : List (S42)) : List (S42))).bind fun y301 => (if y298.length + y301.length < 2199023255552 then ((params_ValidScenario.f a0_0 a0_1 a0_2 l0_3 l0_4 l0_5).bind fun t307 => (if t307 = true then ((params_ValidScenario.f a0_0 a0_1 a0_2 l0_3 (y298 ++ y301) l0_5).bind fun t308 => ((privityref12_Deviation.f a0_0 a0_1 a0_2 a1_0 a1_1 a1_2 a1_3 a1_4 a1_5 a1_6 a1_7).bind fun t309 => (some (t308 == t309)))) else (some false))) else (none)))) else (none))) else (some true))) else (some false))
def privitylaw12_ParamsScenarioWithExtraDeviation.T6 : Bool × List (List Nat × List Nat) := (true, [([], []), ([], []), ([1], [1]), ([0, 2], [0, 2]), ([], []), ([4], [4]), ([3, 5, 3], [3, 5]), ([0, 1, 2, 3, 4, 5, 6], []), ([7, 6, 6, 0, 1, 2, 3, 4, 5, 6], [6, 7])])
def privitylaw12_ParamsScenarioWithExtraDeviation.B6 : List Nat := [0, 0, 2, 7, 0, 16, 63, 127, 255]
theorem privitylaw12_ParamsScenarioWithExtraDeviation.tab6 : rtab .any (opsOf Tryd.f7 6) = privitylaw12_ParamsScenarioWithExtraDeviation.T6 := by kernel_rfl
theorem privitylaw12_ParamsScenarioWithExtraDeviation.bits6 : waitsOk privitylaw12_ParamsScenarioWithExtraDeviation.T6.2 privitylaw12_ParamsScenarioWithExtraDeviation.B6 = true := by kernel_rfl
def privitylaw12_ParamsScenarioWithExtraDeviation.T7 : Bool × List (List Nat × List Nat) := (true, [([], []), ([0], [0]), ([1, 1], [1]), ([2], [2]), ([3, 2, 2], [2, 3]), ([2], [2]), ([5, 2], [2, 5]), ([2], [2]), ([6, 7, 4, 2], [2, 6, 7]), ([4, 8, 2], [2, 4, 8]), ([2, 9], [2, 9]), ([10, 8, 0, 1, 2, 3, 4, 5, 6, 7, 8, 9, 10], [10])])
def privitylaw12_ParamsScenarioWithExtraDeviation.B7 : List Nat := [0, 1, 3, 7, 15, 7, 39, 7, 255, 511, 1023, 2047]
theorem privitylaw12_ParamsScenarioWithExtraDeviation.tab7 : rtab .any (opsOf Tryd.f7 7) = privitylaw12_ParamsScenarioWithExtraDeviation.T7 := by kernel_rfl
theorem privitylaw12_ParamsScenarioWithExtraDeviation.bits7 : waitsOk privitylaw12_ParamsScenarioWithExtraDeviation.T7.2 privitylaw12_ParamsScenarioWithExtraDeviation.B7 = true := by kernel_rfl
set_option maxHeartbeats 8000000 in
set_option maxRecDepth 100000 in
theorem privitylaw12_ParamsScenarioWithExtraDeviation.calls (k : Nat) (a0_0 : Int) (a0_1 : Int) (a0_2 : Int) (A0_3 : Option Addr) (c0_3 : Nat) (l0_3 : List Int) (A0_4 : Option Addr) (c0_4 : Nat) (l0_4 : List (S42)) (A0_5 : Option Addr) (c0_5 : Nat) (l0_5 : List (List Int)) (a1_0 : Int) (a1_1 : Int) (a1_2 : Int) (a1_3 : Int) (a1_4 : Int) (a1_5 : Int) (a1_6 : Int) (a1_7 : Int) (r : Bool) (w : World) (hr0_3 : Kd.C (Kd.int .i64) w A0_3 l0_3.length l0_3) (hc0_3 : l0_3.length ≤ c0_3) (hr0_4 : Kd.C k42 w A0_4 l0_4.length l0_4) (hc0_4 : l0_4.length ≤ c0_4) (hr0_5 : Kd.C (Kd.slice 22 (Kd.int .u64)) w A0_5 l0_5.length l0_5) (hc0_5 : l0_5.length ≤ c0_5) (hr1_ : r = true) (hx_ : Hx w) (h : privitylaw12_ParamsScenarioWithExtraDeviation.f k a0_0 a0_1 a0_2 l0_3 l0_4 l0_5 a1_0 a1_1 a1_2 a1_3 a1_4 a1_5 a1_6 a1_7 = some r) :
  Calls Tryd.prog 7 #[.agg #[.int .u64 a0_0,.int .i64 a0_1,.int .i64 a0_2,.slice A0_3 l0_3.length c0_3,.slice A0_4 l0_4.length c0_4,.slice A0_5 l0_5.length c0_5],.agg #[.int .i64 a1_0,.int .i64 a1_1,.int .i64 a1_2,.int .i64 a1_3,.int .i64 a1_4,.int .u64 a1_5,.int .i64 a1_6,.int .i64 a1_7]] w fun e w' => e = .returned (.bool r) ∧ Below w.heap.size w w' := by
 have HX_ := Aside0.mk hx_
 clear hx_
 have HRT_ := Aside0.mk hr1_
 clear hr1_
 have hu32 := Tryd.underlying32
 have hu42 := Tryd.underlying42
 have hu24 := Tryd.underlying24
 have HR0_3 := Aside0.mk hr0_3
 have HC0_3 := Aside0.mk hc0_3
 clear hr0_3 hc0_3
 have HR0_4 := Aside0.mk hr0_4
 have HC0_4 := Aside0.mk hc0_4
 clear hr0_4 hc0_4
 have HR0_5 := Aside0.mk hr0_5
 have HC0_5 := Aside0.mk hc0_5
 clear hr0_5 hc0_5
 have HB := Aside0.mk (Below.refl w.heap.size w)
 have H : ((privitylaw12_awake.f).bind fun t292 => (if t292 = true then ((privityref12_Light.f k a0_0 a0_1 a0_2 l0_3 l0_4 l0_5 13 20 300).bind fun t293 => (if t293 = true then ((some (([] : List (S42)) : List (S42))).bind fun y295 => (if y295.length + l0_4.length < 2199023255552 then ((some (y295 ++ l0_4 : List (S42))).bind fun y298 => ((some (([(⟨a1_0,a1_1,a1_2,a1_3,a1_4,a1_5,a1_6,a1_7⟩ : S42)] : List (S42)) : List (S42))).bind fun y301 => (if y298.length + y301.length < 2199023255552 then ((params_ValidScenario.f a0_0 a0_1 a0_2 l0_3 l0_4 l0_5).bind fun t307 => (if t307 = true then ((params_ValidScenario.f a0_0 a0_1 a0_2 l0_3 (y298 ++ y301) l0_5).bind fun t308 => ((privityref12_Deviation.f a0_0 a0_1 a0_2 a1_0 a1_1 a1_2 a1_3 a1_4 a1_5 a1_6 a1_7).bind fun t309 => (some (t308 == t309)))) else (some false))) else (none)))) else (none))) else (some true))) else (some false))) = some r := h
 clear h
 replace H := Option.bind_eq_some_iff.mp H
 obtain ⟨t292,A30,H⟩ := H
 replace H : (if t292 = true then ((privityref12_Light.f k a0_0 a0_1 a0_2 l0_3 l0_4 l0_5 13 20 300).bind fun t293 => (if t293 = true then ((some (([] : List (S42)) : List (S42))).bind fun y295 => (if y295.length + l0_4.length < 2199023255552 then ((some (y295 ++ l0_4 : List (S42))).bind fun y298 => ((some (([(⟨a1_0,a1_1,a1_2,a1_3,a1_4,a1_5,a1_6,a1_7⟩ : S42)] : List (S42)) : List (S42))).bind fun y301 => (if y298.length + y301.length < 2199023255552 then ((params_ValidScenario.f a0_0 a0_1 a0_2 l0_3 l0_4 l0_5).bind fun t307 => (if t307 = true then ((params_ValidScenario.f a0_0 a0_1 a0_2 l0_3 (y298 ++ y301) l0_5).bind fun t308 => ((privityref12_Deviation.f a0_0 a0_1 a0_2 a1_0 a1_1 a1_2 a1_3 a1_4 a1_5 a1_6 a1_7).bind fun t309 => (some (t308 == t309)))) else (some false))) else (none)))) else (none))) else (some true))) else (some false)) = some r := H
 have A3 := Aside0.mk A30
 clear A30
 by_cases c4 : t292 = true
 ·subst c4
  have H1 : ((privityref12_Light.f k a0_0 a0_1 a0_2 l0_3 l0_4 l0_5 13 20 300).bind fun t293 => (if t293 = true then ((some (([] : List (S42)) : List (S42))).bind fun y295 => (if y295.length + l0_4.length < 2199023255552 then ((some (y295 ++ l0_4 : List (S42))).bind fun y298 => ((some (([(⟨a1_0,a1_1,a1_2,a1_3,a1_4,a1_5,a1_6,a1_7⟩ : S42)] : List (S42)) : List (S42))).bind fun y301 => (if y298.length + y301.length < 2199023255552 then ((params_ValidScenario.f a0_0 a0_1 a0_2 l0_3 l0_4 l0_5).bind fun t307 => (if t307 = true then ((params_ValidScenario.f a0_0 a0_1 a0_2 l0_3 (y298 ++ y301) l0_5).bind fun t308 => ((privityref12_Deviation.f a0_0 a0_1 a0_2 a1_0 a1_1 a1_2 a1_3 a1_4 a1_5 a1_6 a1_7).bind fun t309 => (some (t308 == t309)))) else (some false))) else (none)))) else (none))) else (some true))) = some r := by rw [if_pos rfl] at H;exact H
  clear H
  have H := H1
  clear H1
  replace H := Option.bind_eq_some_iff.mp H
  obtain ⟨t293,A50,H⟩ := H
  replace H : (if t293 = true then ((some (([] : List (S42)) : List (S42))).bind fun y295 => (if y295.length + l0_4.length < 2199023255552 then ((some (y295 ++ l0_4 : List (S42))).bind fun y298 => ((some (([(⟨a1_0,a1_1,a1_2,a1_3,a1_4,a1_5,a1_6,a1_7⟩ : S42)] : List (S42)) : List (S42))).bind fun y301 => (if y298.length + y301.length < 2199023255552 then ((params_ValidScenario.f a0_0 a0_1 a0_2 l0_3 l0_4 l0_5).bind fun t307 => (if t307 = true then ((params_ValidScenario.f a0_0 a0_1 a0_2 l0_3 (y298 ++ y301) l0_5).bind fun t308 => ((privityref12_Deviation.f a0_0 a0_1 a0_2 a1_0 a1_1 a1_2 a1_3 a1_4 a1_5 a1_6 a1_7).bind fun t309 => (some (t308 == t309)))) else (some false))) else (none)))) else (none))) else (some true)) = some r := H
  have A5 := Aside0.mk A50
  clear A50
  by_cases c6 : t293 = true
  ·subst c6
   have H1 : ((some (([] : List (S42)) : List (S42))).bind fun y295 => (if y295.length + l0_4.length < 2199023255552 then ((some (y295 ++ l0_4 : List (S42))).bind fun y298 => ((some (([(⟨a1_0,a1_1,a1_2,a1_3,a1_4,a1_5,a1_6,a1_7⟩ : S42)] : List (S42)) : List (S42))).bind fun y301 => (if y298.length + y301.length < 2199023255552 then ((params_ValidScenario.f a0_0 a0_1 a0_2 l0_3 l0_4 l0_5).bind fun t307 => (if t307 = true then ((params_ValidScenario.f a0_0 a0_1 a0_2 l0_3 (y298 ++ y301) l0_5).bind fun t308 => ((privityref12_Deviation.f a0_0 a0_1 a0_2 a1_0 a1_1 a1_2 a1_3 a1_4 a1_5 a1_6 a1_7).bind fun t309 => (some (t308 == t309)))) else (some false))) else (none)))) else (none))) = some r := by rw [if_pos rfl] at H;exact H
   clear H
   have H := H1
   clear H1
   obtain ⟨y295,hy295⟩ : ∃ y_ : List (S42),y_ = (([] : List (S42))) := ⟨_,rfl⟩
   replace H : (if y295.length + l0_4.length < 2199023255552 then ((some (y295 ++ l0_4 : List (S42))).bind fun y298 => ((some (([(⟨a1_0,a1_1,a1_2,a1_3,a1_4,a1_5,a1_6,a1_7⟩ : S42)] : List (S42)) : List (S42))).bind fun y301 => (if y298.length + y301.length < 2199023255552 then ((params_ValidScenario.f a0_0 a0_1 a0_2 l0_3 l0_4 l0_5).bind fun t307 => (if t307 = true then ((params_ValidScenario.f a0_0 a0_1 a0_2 l0_3 (y298 ++ y301) l0_5).bind fun t308 => ((privityref12_Deviation.f a0_0 a0_1 a0_2 a1_0 a1_1 a1_2 a1_3 a1_4 a1_5 a1_6 a1_7).bind fun t309 => (some (t308 == t309)))) else (some false))) else (none)))) else (none)) = some r := by first|(rw [hy295];with_reducible exact H)|(have H2_ := (Option.bind_some _ _).symm.trans H;rw [hy295];with_reducible exact H2_)|(have H2_ := (Option.bind_some _ _).symm.trans H;with_reducible exact H2_)|with_reducible exact H|(rw [hy295];exact H)|exact H
   have Ny295 := Aside0.mk hy295
   clear hy295
   by_cases c7 : y295.length + l0_4.length < 2199023255552
   ·rw [if_pos c7] at H
    have LMc7 := Aside0.mk c7
    clear c7
    obtain ⟨y298,hy298⟩ : ∃ y_ : List (S42),y_ = (y295 ++ l0_4) := ⟨_,rfl⟩
    replace H : ((some (([(⟨a1_0,a1_1,a1_2,a1_3,a1_4,a1_5,a1_6,a1_7⟩ : S42)] : List (S42)) : List (S42))).bind fun y301 => (if y298.length + y301.length < 2199023255552 then ((params_ValidScenario.f a0_0 a0_1 a0_2 l0_3 l0_4 l0_5).bind fun t307 => (if t307 = true then ((params_ValidScenario.f a0_0 a0_1 a0_2 l0_3 (y298 ++ y301) l0_5).bind fun t308 => ((privityref12_Deviation.f a0_0 a0_1 a0_2 a1_0 a1_1 a1_2 a1_3 a1_4 a1_5 a1_6 a1_7).bind fun t309 => (some (t308 == t309)))) else (some false))) else (none))) = some r := by first|(rw [hy298];with_reducible exact H)|(have H2_ := (Option.bind_some _ _).symm.trans H;rw [hy298];with_reducible exact H2_)|(have H2_ := (Option.bind_some _ _).symm.trans H;with_reducible exact H2_)|with_reducible exact H|(rw [hy298];exact H)|exact H
    have Ny298 := Aside0.mk hy298
    clear hy298
    obtain ⟨y301,hy301⟩ : ∃ y_ : List (S42),y_ = (([(⟨a1_0,a1_1,a1_2,a1_3,a1_4,a1_5,a1_6,a1_7⟩ : S42)] : List (S42))) := ⟨_,rfl⟩
    replace H : (if y298.length + y301.length < 2199023255552 then ((params_ValidScenario.f a0_0 a0_1 a0_2 l0_3 l0_4 l0_5).bind fun t307 => (if t307 = true then ((params_ValidScenario.f a0_0 a0_1 a0_2 l0_3 (y298 ++ y301) l0_5).bind fun t308 => ((privityref12_Deviation.f a0_0 a0_1 a0_2 a1_0 a1_1 a1_2 a1_3 a1_4 a1_5 a1_6 a1_7).bind fun t309 => (some (t308 == t309)))) else (some false))) else (none)) = some r := by first|(rw [hy301];with_reducible exact H)|(have H2_ := (Option.bind_some _ _).symm.trans H;rw [hy301];with_reducible exact H2_)|(have H2_ := (Option.bind_some _ _).symm.trans H;with_reducible exact H2_)|with_reducible exact H|(rw [hy301];exact H)|exact H
    have Ny301 := Aside0.mk hy301
    clear hy301
    by_cases c8 : y298.length + y301.length < 2199023255552
    ·rw [if_pos c8] at H
     have LMc8 := Aside0.mk c8
     clear c8
     obtain ⟨y304,hy304⟩ : ∃ y_ : List (S42),y_ = (y298 ++ y301) := ⟨_,rfl⟩
     replace H : ((params_ValidScenario.f a0_0 a0_1 a0_2 l0_3 l0_4 l0_5).bind fun t307 => (if t307 = true then ((params_ValidScenario.f a0_0 a0_1 a0_2 l0_3 y304 l0_5).bind fun t308 => ((privityref12_Deviation.f a0_0 a0_1 a0_2 a1_0 a1_1 a1_2 a1_3 a1_4 a1_5 a1_6 a1_7).bind fun t309 => (some (t308 == t309)))) else (some false))) = some r := by first|(rw [hy304];with_reducible exact H)|(have H2_ := (Option.bind_some _ _).symm.trans H;rw [hy304];with_reducible exact H2_)|(have H2_ := (Option.bind_some _ _).symm.trans H;with_reducible exact H2_)|with_reducible exact H|(rw [hy304];exact H)|exact H
     have Ny304 := Aside0.mk hy304
     clear hy304
     replace H := Option.bind_eq_some_iff.mp H
     obtain ⟨t307,A90,H⟩ := H
     replace H : (if t307 = true then ((params_ValidScenario.f a0_0 a0_1 a0_2 l0_3 y304 l0_5).bind fun t308 => ((privityref12_Deviation.f a0_0 a0_1 a0_2 a1_0 a1_1 a1_2 a1_3 a1_4 a1_5 a1_6 a1_7).bind fun t309 => (some (t308 == t309)))) else (some false)) = some r := H
     have A9 := Aside0.mk A90
     clear A90
     by_cases c10 : t307 = true
     ·subst c10
      have H1 : ((params_ValidScenario.f a0_0 a0_1 a0_2 l0_3 y304 l0_5).bind fun t308 => ((privityref12_Deviation.f a0_0 a0_1 a0_2 a1_0 a1_1 a1_2 a1_3 a1_4 a1_5 a1_6 a1_7).bind fun t309 => (some (t308 == t309)))) = some r := by rw [if_pos rfl] at H;exact H
      clear H
      have H := H1
      clear H1
      replace H := Option.bind_eq_some_iff.mp H
      obtain ⟨t308,A110,H⟩ := H
      replace H : ((privityref12_Deviation.f a0_0 a0_1 a0_2 a1_0 a1_1 a1_2 a1_3 a1_4 a1_5 a1_6 a1_7).bind fun t309 => (some (t308 == t309))) = some r := H
      have A11 := Aside0.mk A110
      clear A110
      replace H := Option.bind_eq_some_iff.mp H
      obtain ⟨t309,A120,H⟩ := H
      replace H : (some (t308 == t309)) = some r := H
      have A12 := Aside0.mk A120
      clear A120
      obtain rfl := Option.some.inj H
      go_enter Tryd.func7,Tryd.ntmps7
      try go_wp2_with (first|((with_reducible refine gate_dst (N := 2) rfl ?_);refine box_event ?hg (N := 2) ?hd (cs := #[.int .u64 a0_0,.int .i64 a0_1,.int .i64 a0_2,.slice A0_3 l0_3.length c0_3,.slice A0_4 l0_4.length c0_4,.slice A0_5 l0_5.length c0_5]) (t := 32) ?hr ?_;(case hd => rfl);(case hg => rfl);(case hr => first|(go_simp;done)|(go_simp;rfl));intro gb290 hg w13 hbox hb;have n0_ := Aside0.mk (below_step (by repeat (first|(with_reducible first|exact HB.out|apply below_alloc|apply pw_below_drewN|apply below_drew1)|exact HB.out)) hb);have n1_ := Aside0.mk (hbox);have n2_ := Aside0.mk ((by rw [hg];exact (below_size (by repeat (first|(with_reducible first|exact HB.out|apply below_alloc|apply pw_below_drewN|apply below_drew1)|exact HB.out))) : w.heap.size ≤ gb290));have n3_ := Aside0.mk ((by rw [hg];exact (below_size (by repeat (first|(with_reducible first|exact HB.out|apply below_alloc|apply pw_below_drewN|apply below_drew1)|exact HB.out))) : w.heap.size ≤ gb290));clear HB;have HB := n0_;have BK290 := n1_;have GW290 := n2_;have GE290 := n3_;clear n0_ n1_ n2_ n3_;clear hb hbox hg)|((with_reducible refine gate_dst (N := 3) rfl ?_);refine box_event ?hg (N := 3) ?hd (cs := #[.int .i64 a1_0,.int .i64 a1_1,.int .i64 a1_2,.int .i64 a1_3,.int .i64 a1_4,.int .u64 a1_5,.int .i64 a1_6,.int .i64 a1_7]) (t := 42) ?hr ?_;(case hd => rfl);(case hg => rfl);(case hr => first|(go_simp;done)|(go_simp;rfl));intro gb291 hg w14 hbox hb;have n0_ := Aside0.mk (blk_below (g := gb290) (o := .cells #[.int .u64 a0_0,.int .i64 a0_1,.int .i64 a0_2,.slice A0_3 l0_3.length c0_3,.slice A0_4 l0_4.length c0_4,.slice A0_5 l0_5.length c0_5] 32 (0,0)) (by (with_reducible repeat (first|refine blk_drewN ?_ _|refine blk_drew ?_|refine blk_alloc ?_ _));exact BK290.out) hb);have n1_ := Aside0.mk (below_step (by repeat (first|(with_reducible first|exact HB.out|apply below_alloc|apply pw_below_drewN|apply below_drew1|refine below_set ?_ GE290.out)|exact HB.out)) hb);have n2_ := Aside0.mk (hbox);have n3_ := Aside0.mk ((by rw [hg];exact (below_size (by repeat (first|(with_reducible first|exact HB.out|apply below_alloc|apply pw_below_drewN|apply below_drew1|refine below_set ?_ GE290.out)|exact HB.out))) : w.heap.size ≤ gb291));have n4_ := Aside0.mk ((by rw [hg];exact (below_size (by repeat (first|(with_reducible first|exact HB.out|apply below_alloc|apply pw_below_drewN|apply below_drew1|refine below_set ?_ GE290.out)|exact HB.out))) : w.heap.size ≤ gb291));have n5_ := Aside0.mk ((by rw [hg];exact Nat.ne_of_lt (blk_lt (g := gb290) (o := .cells #[.int .u64 a0_0,.int .i64 a0_1,.int .i64 a0_2,.slice A0_3 l0_3.length c0_3,.slice A0_4 l0_4.length c0_4,.slice A0_5 l0_5.length c0_5] 32 (0,0)) (by (with_reducible repeat (first|refine blk_drewN ?_ _|refine blk_drew ?_|refine blk_alloc ?_ _));exact BK290.out)) : gb290 ≠ gb291));have n6_ := Aside0.mk ((by rw [hg];exact Nat.ne_of_gt (blk_lt (g := gb290) (o := .cells #[.int .u64 a0_0,.int .i64 a0_1,.int .i64 a0_2,.slice A0_3 l0_3.length c0_3,.slice A0_4 l0_4.length c0_4,.slice A0_5 l0_5.length c0_5] 32 (0,0)) (by (with_reducible repeat (first|refine blk_drewN ?_ _|refine blk_drew ?_|refine blk_alloc ?_ _));exact BK290.out)) : gb291 ≠ gb290));clear BK290;clear HB;have BK290 := n0_;have HB := n1_;have BK291 := n2_;have GW291 := n3_;have GE291 := n4_;have NB290_291 := n5_;have NB291_290 := n6_;clear n0_ n1_ n2_ n3_ n4_ n5_ n6_;clear hb hbox hg)|((with_reducible refine gate_callee (f := 9) rfl ?_);refine goesL_ (some 6) rfl rfl Tryd.func9 (by kernel_rfl) rfl #[] rfl (by (try simp only [List.map_toArray,List.map_cons,List.map_nil]);first|done|rfl|(simp only [List.length_drop,List.length_take];rfl)) ?_;(with_reducible refine (privitylaw12_awake.calls  true _ ?sidehx A3.out).mono ?_);(case sidehx => repeat (first|exact HX_.out|exact (Hx_below HX_.out HB.out)|(with_reducible refine Hx_alloc ?_ _)|(with_reducible refine Hx_drewN ?_ _)|(with_reducible refine Hx_drew ?_)));rintro e w15 ⟨rfl,hb⟩;refine ⟨_,rfl,?_⟩;have n0_ := Aside0.mk (blk_below (g := gb290) (o := .cells #[.int .u64 a0_0,.int .i64 a0_1,.int .i64 a0_2,.slice A0_3 l0_3.length c0_3,.slice A0_4 l0_4.length c0_4,.slice A0_5 l0_5.length c0_5] 32 (0,0)) (by (with_reducible repeat (first|refine blk_drewN ?_ _|refine blk_drew ?_|refine blk_alloc ?_ _));exact BK290.out) hb);have n1_ := Aside0.mk (blk_below (g := gb291) (o := .cells #[.int .i64 a1_0,.int .i64 a1_1,.int .i64 a1_2,.int .i64 a1_3,.int .i64 a1_4,.int .u64 a1_5,.int .i64 a1_6,.int .i64 a1_7] 42 (0,0)) (by (with_reducible repeat (first|refine blk_drewN ?_ _|refine blk_drew ?_|refine blk_alloc ?_ _));exact BK291.out) hb);have n2_ := Aside0.mk (below_step (by repeat (first|(with_reducible first|exact HB.out|apply below_alloc|apply pw_below_drewN|apply below_drew1|refine below_set ?_ GE290.out|refine below_set ?_ GE291.out)|exact HB.out)) hb);clear BK290;clear BK291;clear HB;have BK290 := n0_;have BK291 := n1_;have HB := n2_;clear n0_ n1_ n2_;(try clear hb);(try clear hb2);(try clear hk);(try clear hi);have hnb16 := NB290_291.out;have hnc16 := NB291_290.out;have hcz17_0 : w15.cell? ⟨gb290,0,none⟩ = some (.int .u64 a0_0) := (blk_cell BK290.out 0).trans rfl;have hcz17_1 : w15.cell? ⟨gb290,1,none⟩ = some (.int .i64 a0_1) := (blk_cell BK290.out 1).trans rfl;have hcz17_2 : w15.cell? ⟨gb290,2,none⟩ = some (.int .i64 a0_2) := (blk_cell BK290.out 2).trans rfl;have hcz17_3 : w15.cell? ⟨gb290,3,none⟩ = some (.slice A0_3 l0_3.length c0_3) := (blk_cell BK290.out 3).trans rfl;have hcz17_4 : w15.cell? ⟨gb290,4,none⟩ = some (.slice A0_4 l0_4.length c0_4) := (blk_cell BK290.out 4).trans rfl;have hcz17_5 : w15.cell? ⟨gb290,5,none⟩ = some (.slice A0_5 l0_5.length c0_5) := (blk_cell BK290.out 5).trans rfl;have hfz17_0 := blk_frozen BK290.out 0;have hfz17_1 := blk_frozen BK290.out 1;have hfz17_2 := blk_frozen BK290.out 2;have hfz17_3 := blk_frozen BK290.out 3;have hfz17_4 := blk_frozen BK290.out 4;have hfz17_5 := blk_frozen BK290.out 5)|((with_reducible refine gate_callee (f := 24) rfl ?_);refine goesL_ (some 9) rfl rfl Tryd.func24 (by kernel_rfl) rfl #[.agg #[.int .u64 a0_0,.int .i64 a0_1,.int .i64 a0_2,.slice A0_3 l0_3.length c0_3,.slice A0_4 l0_4.length c0_4,.slice A0_5 l0_5.length c0_5],.int .i64 13,.int .i64 20,.int .i64 300] rfl (by (try simp only [List.map_toArray,List.map_cons,List.map_nil]);first|done|rfl|(simp only [List.length_drop,List.length_take];rfl)) ?_;(with_reducible refine (privityref12_Light.calls k a0_0 a0_1 a0_2 _ _ l0_3 _ _ l0_4 _ _ l0_5 13 20 300 true _ ?side1 ?side2 ?side3 ?side4 ?side5 ?side6 A5.out).mono ?_);(case side1 => repeat (first|exact (Kd.C_below HR0_3.out HB.out)|(with_reducible refine Kd.C_alloc ?_ _)|(with_reducible refine Kd.C_drewN ?_ _)|(with_reducible refine Kd.C_drew ?_)));(case side2 => exact HC0_3.out);(case side3 => repeat (first|exact (Kd.C_below HR0_4.out HB.out)|(with_reducible refine Kd.C_alloc ?_ _)|(with_reducible refine Kd.C_drewN ?_ _)|(with_reducible refine Kd.C_drew ?_)));(case side4 => exact HC0_4.out);(case side5 => repeat (first|exact (Kd.C_below HR0_5.out HB.out)|(with_reducible refine Kd.C_alloc ?_ _)|(with_reducible refine Kd.C_drewN ?_ _)|(with_reducible refine Kd.C_drew ?_)));(case side6 => exact HC0_5.out);rintro e w18 ⟨rfl,hb⟩;refine ⟨_,rfl,?_⟩;have n0_ := Aside0.mk (blk_below (g := gb290) (o := .cells #[.int .u64 a0_0,.int .i64 a0_1,.int .i64 a0_2,.slice A0_3 l0_3.length c0_3,.slice A0_4 l0_4.length c0_4,.slice A0_5 l0_5.length c0_5] 32 (0,0)) (by (with_reducible repeat (first|refine blk_drewN ?_ _|refine blk_drew ?_|refine blk_alloc ?_ _));exact BK290.out) hb);have n1_ := Aside0.mk (blk_below (g := gb291) (o := .cells #[.int .i64 a1_0,.int .i64 a1_1,.int .i64 a1_2,.int .i64 a1_3,.int .i64 a1_4,.int .u64 a1_5,.int .i64 a1_6,.int .i64 a1_7] 42 (0,0)) (by (with_reducible repeat (first|refine blk_drewN ?_ _|refine blk_drew ?_|refine blk_alloc ?_ _));exact BK291.out) hb);have n2_ := Aside0.mk (below_step (by repeat (first|(with_reducible first|exact HB.out|apply below_alloc|apply pw_below_drewN|apply below_drew1|refine below_set ?_ GE290.out|refine below_set ?_ GE291.out)|exact HB.out)) hb);clear BK290;clear BK291;clear HB;have BK290 := n0_;have BK291 := n1_;have HB := n2_;clear n0_ n1_ n2_;(try clear hb);(try clear hb2);(try clear hk);(try clear hi);have hcz19_0 : w18.cell? ⟨gb290,0,none⟩ = some (.int .u64 a0_0) := (blk_cell BK290.out 0).trans rfl;have hcz19_1 : w18.cell? ⟨gb290,1,none⟩ = some (.int .i64 a0_1) := (blk_cell BK290.out 1).trans rfl;have hcz19_2 : w18.cell? ⟨gb290,2,none⟩ = some (.int .i64 a0_2) := (blk_cell BK290.out 2).trans rfl;have hcz19_3 : w18.cell? ⟨gb290,3,none⟩ = some (.slice A0_3 l0_3.length c0_3) := (blk_cell BK290.out 3).trans rfl;have hcz19_4 : w18.cell? ⟨gb290,4,none⟩ = some (.slice A0_4 l0_4.length c0_4) := (blk_cell BK290.out 4).trans rfl;have hcz19_5 : w18.cell? ⟨gb290,5,none⟩ = some (.slice A0_5 l0_5.length c0_5) := (blk_cell BK290.out 5).trans rfl;have hfz19_0 := blk_frozen BK290.out 0;have hfz19_1 := blk_frozen BK290.out 1;have hfz19_2 := blk_frozen BK290.out 2;have hfz19_3 := blk_frozen BK290.out 3;have hfz19_4 := blk_frozen BK290.out 4;have hfz19_5 := blk_frozen BK290.out 5)|((with_reducible refine gate_dst (N := 5) rfl ?_);refine box_event ?hg (N := 5) ?hd (cs := #[.int .u64 0,.int .i64 0,.int .i64 0,.slice none 0 0,.slice none 0 0,.slice none 0 0]) (t := 32) ?hr ?_;(case hd => rfl);(case hg => rfl);(case hr => first|(go_simp;done)|(go_simp;rfl));intro gb294 hg w20 hbox hb;have n0_ := Aside0.mk (blk_below (g := gb290) (o := .cells #[.int .u64 a0_0,.int .i64 a0_1,.int .i64 a0_2,.slice A0_3 l0_3.length c0_3,.slice A0_4 l0_4.length c0_4,.slice A0_5 l0_5.length c0_5] 32 (0,0)) (by (with_reducible repeat (first|refine blk_drewN ?_ _|refine blk_drew ?_|refine blk_alloc ?_ _));exact BK290.out) hb);have n1_ := Aside0.mk (blk_below (g := gb291) (o := .cells #[.int .i64 a1_0,.int .i64 a1_1,.int .i64 a1_2,.int .i64 a1_3,.int .i64 a1_4,.int .u64 a1_5,.int .i64 a1_6,.int .i64 a1_7] 42 (0,0)) (by (with_reducible repeat (first|refine blk_drewN ?_ _|refine blk_drew ?_|refine blk_alloc ?_ _));exact BK291.out) hb);have n2_ := Aside0.mk (below_step (by repeat (first|(with_reducible first|exact HB.out|apply below_alloc|apply pw_below_drewN|apply below_drew1|refine below_set ?_ GE290.out|refine below_set ?_ GE291.out)|exact HB.out)) hb);have n3_ := Aside0.mk (hbox);have n4_ := Aside0.mk ((by rw [hg];exact (below_size (by repeat (first|(with_reducible first|exact HB.out|apply below_alloc|apply pw_below_drewN|apply below_drew1|refine below_set ?_ GE290.out|refine below_set ?_ GE291.out)|exact HB.out))) : w.heap.size ≤ gb294));have n5_ := Aside0.mk ((by rw [hg];exact (below_size (by repeat (first|(with_reducible first|exact HB.out|apply below_alloc|apply pw_below_drewN|apply below_drew1|refine below_set ?_ GE290.out|refine below_set ?_ GE291.out)|exact HB.out))) : w.heap.size ≤ gb294));have n6_ := Aside0.mk ((by rw [hg];exact Nat.ne_of_lt (blk_lt (g := gb290) (o := .cells #[.int .u64 a0_0,.int .i64 a0_1,.int .i64 a0_2,.slice A0_3 l0_3.length c0_3,.slice A0_4 l0_4.length c0_4,.slice A0_5 l0_5.length c0_5] 32 (0,0)) (by (with_reducible repeat (first|refine blk_drewN ?_ _|refine blk_drew ?_|refine blk_alloc ?_ _));exact BK290.out)) : gb290 ≠ gb294));have n7_ := Aside0.mk ((by rw [hg];exact Nat.ne_of_gt (blk_lt (g := gb290) (o := .cells #[.int .u64 a0_0,.int .i64 a0_1,.int .i64 a0_2,.slice A0_3 l0_3.length c0_3,.slice A0_4 l0_4.length c0_4,.slice A0_5 l0_5.length c0_5] 32 (0,0)) (by (with_reducible repeat (first|refine blk_drewN ?_ _|refine blk_drew ?_|refine blk_alloc ?_ _));exact BK290.out)) : gb294 ≠ gb290));have n8_ := Aside0.mk ((by rw [hg];exact Nat.ne_of_lt (blk_lt (g := gb291) (o := .cells #[.int .i64 a1_0,.int .i64 a1_1,.int .i64 a1_2,.int .i64 a1_3,.int .i64 a1_4,.int .u64 a1_5,.int .i64 a1_6,.int .i64 a1_7] 42 (0,0)) (by (with_reducible repeat (first|refine blk_drewN ?_ _|refine blk_drew ?_|refine blk_alloc ?_ _));exact BK291.out)) : gb291 ≠ gb294));have n9_ := Aside0.mk ((by rw [hg];exact Nat.ne_of_gt (blk_lt (g := gb291) (o := .cells #[.int .i64 a1_0,.int .i64 a1_1,.int .i64 a1_2,.int .i64 a1_3,.int .i64 a1_4,.int .u64 a1_5,.int .i64 a1_6,.int .i64 a1_7] 42 (0,0)) (by (with_reducible repeat (first|refine blk_drewN ?_ _|refine blk_drew ?_|refine blk_alloc ?_ _));exact BK291.out)) : gb294 ≠ gb291));clear BK290;clear BK291;clear HB;have BK290 := n0_;have BK291 := n1_;have HB := n2_;have BK294 := n3_;have GW294 := n4_;have GE294 := n5_;have NB290_294 := n6_;have NB294_290 := n7_;have NB291_294 := n8_;have NB294_291 := n9_;clear n0_ n1_ n2_ n3_ n4_ n5_ n6_ n7_ n8_ n9_;clear hb hbox hg;have hnb21 := NB294_290.out;have hnc21 := NB290_294.out;have hnb22 := NB294_291.out;have hnc22 := NB291_294.out;have hcz23_0 : w20.cell? ⟨gb294,0,none⟩ = some (.int .u64 0) := (blk_cell BK294.out 0).trans rfl;have hcz23_1 : w20.cell? ⟨gb294,1,none⟩ = some (.int .i64 0) := (blk_cell BK294.out 1).trans rfl;have hcz23_2 : w20.cell? ⟨gb294,2,none⟩ = some (.int .i64 0) := (blk_cell BK294.out 2).trans rfl;have hcz23_3 : w20.cell? ⟨gb294,3,none⟩ = some (.slice none 0 0) := (blk_cell BK294.out 3).trans rfl;have hcz23_4 : w20.cell? ⟨gb294,4,none⟩ = some (.slice none 0 0) := (blk_cell BK294.out 4).trans rfl;have hcz23_5 : w20.cell? ⟨gb294,5,none⟩ = some (.slice none 0 0) := (blk_cell BK294.out 5).trans rfl;have hfz23_0 := blk_frozen BK294.out 0;have hfz23_1 := blk_frozen BK294.out 1;have hfz23_2 := blk_frozen BK294.out 2;have hfz23_3 := blk_frozen BK294.out 3;have hfz23_4 := blk_frozen BK294.out 4;have hfz23_5 := blk_frozen BK294.out 5))
      have n0_ : Aside0 (((((((w20.setCell ⟨gb294,0,none⟩ (.int .u64 a0_0)).setCell ⟨gb294,1,none⟩ (.int .i64 a0_1)).setCell ⟨gb294,2,none⟩ (.int .i64 a0_2)).setCell ⟨gb294,3,none⟩ (.slice A0_3 l0_3.length c0_3)).setCell ⟨gb294,4,none⟩ (.slice A0_4 l0_4.length c0_4)).setCell ⟨gb294,5,none⟩ (.slice A0_5 l0_5.length c0_5)).heap[gb290]? = some (.cells #[.int .u64 a0_0,.int .i64 a0_1,.int .i64 a0_2,.slice A0_3 l0_3.length c0_3,.slice A0_4 l0_4.length c0_4,.slice A0_5 l0_5.length c0_5] 32 (0,0))) := ⟨by (with_reducible repeat (first|refine blk_drewN ?_ _|refine blk_drew ?_|refine blk_alloc ?_ _));refine blk_far ?_ NB290_294.out _;(with_reducible repeat (first|refine blk_drewN ?_ _|refine blk_drew ?_|refine blk_alloc ?_ _));refine blk_far ?_ NB290_294.out _;(with_reducible repeat (first|refine blk_drewN ?_ _|refine blk_drew ?_|refine blk_alloc ?_ _));refine blk_far ?_ NB290_294.out _;(with_reducible repeat (first|refine blk_drewN ?_ _|refine blk_drew ?_|refine blk_alloc ?_ _));refine blk_far ?_ NB290_294.out _;(with_reducible repeat (first|refine blk_drewN ?_ _|refine blk_drew ?_|refine blk_alloc ?_ _));refine blk_far ?_ NB290_294.out _;(with_reducible repeat (first|refine blk_drewN ?_ _|refine blk_drew ?_|refine blk_alloc ?_ _));refine blk_far ?_ NB290_294.out _;(with_reducible repeat (first|refine blk_drewN ?_ _|refine blk_drew ?_|refine blk_alloc ?_ _));exact BK290.out⟩
      have n1_ : Aside0 (((((((w20.setCell ⟨gb294,0,none⟩ (.int .u64 a0_0)).setCell ⟨gb294,1,none⟩ (.int .i64 a0_1)).setCell ⟨gb294,2,none⟩ (.int .i64 a0_2)).setCell ⟨gb294,3,none⟩ (.slice A0_3 l0_3.length c0_3)).setCell ⟨gb294,4,none⟩ (.slice A0_4 l0_4.length c0_4)).setCell ⟨gb294,5,none⟩ (.slice A0_5 l0_5.length c0_5)).heap[gb291]? = some (.cells #[.int .i64 a1_0,.int .i64 a1_1,.int .i64 a1_2,.int .i64 a1_3,.int .i64 a1_4,.int .u64 a1_5,.int .i64 a1_6,.int .i64 a1_7] 42 (0,0))) := ⟨by (with_reducible repeat (first|refine blk_drewN ?_ _|refine blk_drew ?_|refine blk_alloc ?_ _));refine blk_far ?_ NB291_294.out _;(with_reducible repeat (first|refine blk_drewN ?_ _|refine blk_drew ?_|refine blk_alloc ?_ _));refine blk_far ?_ NB291_294.out _;(with_reducible repeat (first|refine blk_drewN ?_ _|refine blk_drew ?_|refine blk_alloc ?_ _));refine blk_far ?_ NB291_294.out _;(with_reducible repeat (first|refine blk_drewN ?_ _|refine blk_drew ?_|refine blk_alloc ?_ _));refine blk_far ?_ NB291_294.out _;(with_reducible repeat (first|refine blk_drewN ?_ _|refine blk_drew ?_|refine blk_alloc ?_ _));refine blk_far ?_ NB291_294.out _;(with_reducible repeat (first|refine blk_drewN ?_ _|refine blk_drew ?_|refine blk_alloc ?_ _));refine blk_far ?_ NB291_294.out _;(with_reducible repeat (first|refine blk_drewN ?_ _|refine blk_drew ?_|refine blk_alloc ?_ _));exact BK291.out⟩
      have n2_ : Aside0 (((((((w20.setCell ⟨gb294,0,none⟩ (.int .u64 a0_0)).setCell ⟨gb294,1,none⟩ (.int .i64 a0_1)).setCell ⟨gb294,2,none⟩ (.int .i64 a0_2)).setCell ⟨gb294,3,none⟩ (.slice A0_3 l0_3.length c0_3)).setCell ⟨gb294,4,none⟩ (.slice A0_4 l0_4.length c0_4)).setCell ⟨gb294,5,none⟩ (.slice A0_5 l0_5.length c0_5)).heap[gb294]? = some (.cells #[.int .u64 a0_0,.int .i64 a0_1,.int .i64 a0_2,.slice A0_3 l0_3.length c0_3,.slice A0_4 l0_4.length c0_4,.slice A0_5 l0_5.length c0_5] 32 (0,0))) := ⟨by (with_reducible repeat (first|refine blk_drewN ?_ _|refine blk_drew ?_|refine blk_alloc ?_ _));refine blk_put (cs := #[.int .u64 a0_0,.int .i64 a0_1,.int .i64 a0_2,.slice A0_3 l0_3.length c0_3,.slice A0_4 l0_4.length c0_4,.slice none 0 0]) ?_ 5 _ rfl;(with_reducible repeat (first|refine blk_drewN ?_ _|refine blk_drew ?_|refine blk_alloc ?_ _));refine blk_put (cs := #[.int .u64 a0_0,.int .i64 a0_1,.int .i64 a0_2,.slice A0_3 l0_3.length c0_3,.slice none 0 0,.slice none 0 0]) ?_ 4 _ rfl;(with_reducible repeat (first|refine blk_drewN ?_ _|refine blk_drew ?_|refine blk_alloc ?_ _));refine blk_put (cs := #[.int .u64 a0_0,.int .i64 a0_1,.int .i64 a0_2,.slice none 0 0,.slice none 0 0,.slice none 0 0]) ?_ 3 _ rfl;(with_reducible repeat (first|refine blk_drewN ?_ _|refine blk_drew ?_|refine blk_alloc ?_ _));refine blk_put (cs := #[.int .u64 a0_0,.int .i64 a0_1,.int .i64 0,.slice none 0 0,.slice none 0 0,.slice none 0 0]) ?_ 2 _ rfl;(with_reducible repeat (first|refine blk_drewN ?_ _|refine blk_drew ?_|refine blk_alloc ?_ _));refine blk_put (cs := #[.int .u64 a0_0,.int .i64 0,.int .i64 0,.slice none 0 0,.slice none 0 0,.slice none 0 0]) ?_ 1 _ rfl;(with_reducible repeat (first|refine blk_drewN ?_ _|refine blk_drew ?_|refine blk_alloc ?_ _));refine blk_put (cs := #[.int .u64 0,.int .i64 0,.int .i64 0,.slice none 0 0,.slice none 0 0,.slice none 0 0]) ?_ 0 _ rfl;(with_reducible repeat (first|refine blk_drewN ?_ _|refine blk_drew ?_|refine blk_alloc ?_ _));exact BK294.out⟩
      have n3_ : Aside0 (Below w.heap.size w ((((((w20.setCell ⟨gb294,0,none⟩ (.int .u64 a0_0)).setCell ⟨gb294,1,none⟩ (.int .i64 a0_1)).setCell ⟨gb294,2,none⟩ (.int .i64 a0_2)).setCell ⟨gb294,3,none⟩ (.slice A0_3 l0_3.length c0_3)).setCell ⟨gb294,4,none⟩ (.slice A0_4 l0_4.length c0_4)).setCell ⟨gb294,5,none⟩ (.slice A0_5 l0_5.length c0_5))) := ⟨by repeat (first|(with_reducible first|exact HB.out|apply below_alloc|apply pw_below_drewN|apply below_drew1|refine below_set ?_ GE290.out|refine below_set ?_ GE291.out|refine below_set ?_ GE294.out)|exact HB.out)⟩
      (try clear BK290)
      (try clear BK291)
      (try clear BK294)
      (try clear HB)
      generalize ((((((w20.setCell ⟨gb294,0,none⟩ (.int .u64 a0_0)).setCell ⟨gb294,1,none⟩ (.int .i64 a0_1)).setCell ⟨gb294,2,none⟩ (.int .i64 a0_2)).setCell ⟨gb294,3,none⟩ (.slice A0_3 l0_3.length c0_3)).setCell ⟨gb294,4,none⟩ (.slice A0_4 l0_4.length c0_4)).setCell ⟨gb294,5,none⟩ (.slice A0_5 l0_5.length c0_5)) = w24 at n0_ n1_ n2_ n3_ ⊢
      have BK290 := n0_
      have BK291 := n1_
      have BK294 := n2_
      have HB := n3_
      clear n0_ n1_ n2_ n3_
      have n0_ := Aside0.mk (blk_drew BK290.out)
      have n1_ := Aside0.mk (blk_drew BK291.out)
      have n2_ := Aside0.mk (blk_drew BK294.out)
      have n3_ := Aside0.mk (below_drew1 HB.out)
      clear BK290
      clear BK291
      clear BK294
      clear HB
      have BK290 := n0_
      have BK291 := n1_
      have BK294 := n2_
      have HB := n3_
      clear n0_ n1_ n2_ n3_
      refine start_ (n := 9) (S := fun w' => w'.cell? ⟨gb290,0,none⟩ = some (.int .u64 a0_0) ∧ w'.cell? ⟨gb290,1,none⟩ = some (.int .i64 a0_1) ∧ w'.cell? ⟨gb290,2,none⟩ = some (.int .i64 a0_2) ∧ w'.cell? ⟨gb290,3,none⟩ = some (.slice A0_3 l0_3.length c0_3) ∧ w'.cell? ⟨gb290,4,none⟩ = some (.slice A0_4 l0_4.length c0_4) ∧ w'.cell? ⟨gb290,5,none⟩ = some (.slice A0_5 l0_5.length c0_5) ∧ w'.cell? ⟨gb291,0,none⟩ = some (.int .i64 a1_0) ∧ w'.cell? ⟨gb291,1,none⟩ = some (.int .i64 a1_1) ∧ w'.cell? ⟨gb291,2,none⟩ = some (.int .i64 a1_2) ∧ w'.cell? ⟨gb291,3,none⟩ = some (.int .i64 a1_3) ∧ w'.cell? ⟨gb291,4,none⟩ = some (.int .i64 a1_4) ∧ w'.cell? ⟨gb291,5,none⟩ = some (.int .u64 a1_5) ∧ w'.cell? ⟨gb291,6,none⟩ = some (.int .i64 a1_6) ∧ w'.cell? ⟨gb291,7,none⟩ = some (.int .i64 a1_7)) (ds := []) #[false,false,false,false,false,false,false,false,false] (by kernel_rfl) rfl rfl ⟨(blk_cell BK290.out 0).trans rfl,(blk_cell BK290.out 1).trans rfl,(blk_cell BK290.out 2).trans rfl,(blk_cell BK290.out 3).trans rfl,(blk_cell BK290.out 4).trans rfl,(blk_cell BK290.out 5).trans rfl,(blk_cell BK291.out 0).trans rfl,(blk_cell BK291.out 1).trans rfl,(blk_cell BK291.out 2).trans rfl,(blk_cell BK291.out 3).trans rfl,(blk_cell BK291.out 4).trans rfl,(blk_cell BK291.out 5).trans rfl,(blk_cell BK291.out 6).trans rfl,(blk_cell BK291.out 7).trans rfl⟩ (fun hHeld => ?_);refine with_tabW privitylaw12_ParamsScenarioWithExtraDeviation.tab6 privitylaw12_ParamsScenarioWithExtraDeviation.bits6 (fun HT_ HW_ => ?_)
      generalize w24.drew = w25 at BK290 BK291 BK294 HB hHeld ⊢
      refine pure_ (i := 1) (N := some 13) (v := ?_) (a' := ?_) #[false,true,false,false,false,false,false,false,false] rfl rfl (any_of HT_.out (by kernel_rfl)) (fun _ _ _ h => h) (Or.inl ⟨by rfl,?_⟩) ?_ ?_
      rotate_left
      ·intro w'
       go_simp
       with_reducible rfl
      rotate_left
      ·simp only [Act.put,List.setIfInBounds_toArray,List.set_cons_zero,List.set_cons_succ,i64_w,i32_w]
       rfl
      refine take_ (i := 2) (N := some 14) (v := ?_) (a' := ?_) #[false,true,true,false,false,false,false,false,false] rfl rfl (take_ofW HT_.out HW_.out (by kernel_rfl)) (fun _ _ _ h => h) (Or.inl ⟨by rfl,?_⟩) hHeld ?_ ?_
      rotate_left
      ·rintro w' ⟨s0,s1,s2,s3,s4,s5,s6,s7,s8,s9,s10,s11,s12,s13⟩
       go_simp
       with_reducible rfl
      rotate_left
      ·simp only [Act.put,List.setIfInBounds_toArray,List.set_cons_zero,List.set_cons_succ,i64_w,i32_w]
       rfl
      refine take_ (i := 4) (N := some 16) (v := ?_) (a' := ?_) #[false,true,true,false,true,false,false,false,false] rfl rfl (take_ofW HT_.out HW_.out (by kernel_rfl)) (fun _ _ _ h => h) (Or.inl ⟨by rfl,?_⟩) hHeld ?_ ?_
      rotate_left
      ·rintro w' ⟨s0,s1,s2,s3,s4,s5,s6,s7,s8,s9,s10,s11,s12,s13⟩
       go_simp
       with_reducible rfl
      rotate_left
      ·simp only [Act.put,List.setIfInBounds_toArray,List.set_cons_zero,List.set_cons_succ,i64_w,i32_w]
       rfl
      refine join_ (σ := Value × Value × Value) 3 #[true,true,true,true,true,true,false,false,false] (fun s_ => [(12,s_.1),(15,s_.2.1),(17,s_.2.2)]) (fun s_ w' => (w'.cell? ⟨gb290,0,none⟩ = some (.int .u64 a0_0) ∧ w'.cell? ⟨gb290,1,none⟩ = some (.int .i64 a0_1) ∧ w'.cell? ⟨gb290,2,none⟩ = some (.int .i64 a0_2) ∧ w'.cell? ⟨gb290,3,none⟩ = some (.slice A0_3 l0_3.length c0_3) ∧ w'.cell? ⟨gb290,4,none⟩ = some (.slice A0_4 l0_4.length c0_4) ∧ w'.cell? ⟨gb290,5,none⟩ = some (.slice A0_5 l0_5.length c0_5) ∧ w'.cell? ⟨gb291,0,none⟩ = some (.int .i64 a1_0) ∧ w'.cell? ⟨gb291,1,none⟩ = some (.int .i64 a1_1) ∧ w'.cell? ⟨gb291,2,none⟩ = some (.int .i64 a1_2) ∧ w'.cell? ⟨gb291,3,none⟩ = some (.int .i64 a1_3) ∧ w'.cell? ⟨gb291,4,none⟩ = some (.int .i64 a1_4) ∧ w'.cell? ⟨gb291,5,none⟩ = some (.int .u64 a1_5) ∧ w'.cell? ⟨gb291,6,none⟩ = some (.int .i64 a1_6) ∧ w'.cell? ⟨gb291,7,none⟩ = some (.int .i64 a1_7)) ∧ (Kd.R k42 42 w' w.heap.size (fun k_ => some k_ ≠ (s_.2.2 : Value).ownBlock ∧ k_ ≠ gb291) s_.2.1 y298) ∧ (Kd.R k42 42 w' w.heap.size (fun k_ => some k_ ≠ (s_.2.1 : Value).ownBlock ∧ k_ ≠ gb291) s_.2.2 y301) ∧ (w'.heap[gb290]? = some (.cells #[.int .u64 a0_0,.int .i64 a0_1,.int .i64 a0_2,.slice A0_3 l0_3.length c0_3,.slice A0_4 l0_4.length c0_4,.slice A0_5 l0_5.length c0_5] 32 (0,0))) ∧ (w'.heap[gb291]? = some (.cells #[.int .i64 a1_0,.int .i64 a1_1,.int .i64 a1_2,.int .i64 a1_3,.int .i64 a1_4,.int .u64 a1_5,.int .i64 a1_6,.int .i64 a1_7] 42 (0,0))) ∧ (w'.heap[gb294]? = some (.cells #[.int .u64 a0_0,.int .i64 a0_1,.int .i64 a0_2,.slice A0_3 l0_3.length c0_3,.slice A0_4 l0_4.length c0_4,.slice A0_5 l0_5.length c0_5] 32 (0,0))) ∧ (Below w.heap.size w w')) ?_ ?_
      rotate_left
      ·intro hCont
       refine two_ (i := 0) (j := 5) (Ni := some 12) (Nj := some 17) #[true,true,true,false,true,false,false,false,false] #[false,true,true,false,true,true,false,false,false] rfl rfl rfl rfl (two_of HT_.out (by kernel_rfl)) (by decide) (by decide) (fun K hK => ?_) (fun K hK => ?_)
       ·skip
        refine Kd.R_lit_step k42 _ 42 ?hg (N := 12) ?hd (xs := ([] : List (S42))) (inner := []) (ok := fun _ => True) (okp := fun _ => True) ?hr ?hp (fun _ hk => hk) trivial (Below.refl _ _) (Nat.le_refl _) (by simp) ?_;(case hd => rfl);(case hg => rfl);(case hr => first|(go_simp;done)|(go_simp;rfl));(case hp => exact (Reps.none _ _))
        intro v296 w26 ho27 hb hg_ hnew_
        clear hg_ hnew_
        (first|rw [← Ny295.out] at ho27|(simp only [Int.reduceToNat] at ho27;rw [← Ny295.out] at ho27))
        have n0_ := Aside0.mk (Kd.R_lower (Kd.R_newB ho27 (g := gb291) (o := .cells #[.int .i64 a1_0,.int .i64 a1_1,.int .i64 a1_2,.int .i64 a1_3,.int .i64 a1_4,.int .u64 a1_5,.int .i64 a1_6,.int .i64 a1_7] 42 (0,0)) (by (with_reducible repeat (first|refine blk_drewN ?_ _|refine blk_drew ?_|refine blk_alloc ?_ _));exact BK291.out)) (below_size (by repeat (first|(with_reducible first|exact HB.out|apply below_alloc|apply pw_below_drewN|apply below_drew1|refine below_set ?_ GE290.out|refine below_set ?_ GE291.out|refine below_set ?_ GE294.out)|exact HB.out))))
        have n1_ := Aside0.mk (blk_below (g := gb290) (o := .cells #[.int .u64 a0_0,.int .i64 a0_1,.int .i64 a0_2,.slice A0_3 l0_3.length c0_3,.slice A0_4 l0_4.length c0_4,.slice A0_5 l0_5.length c0_5] 32 (0,0)) (by (with_reducible repeat (first|refine blk_drewN ?_ _|refine blk_drew ?_|refine blk_alloc ?_ _));exact BK290.out) hb)
        have n2_ := Aside0.mk (blk_below (g := gb291) (o := .cells #[.int .i64 a1_0,.int .i64 a1_1,.int .i64 a1_2,.int .i64 a1_3,.int .i64 a1_4,.int .u64 a1_5,.int .i64 a1_6,.int .i64 a1_7] 42 (0,0)) (by (with_reducible repeat (first|refine blk_drewN ?_ _|refine blk_drew ?_|refine blk_alloc ?_ _));exact BK291.out) hb)
        have n3_ := Aside0.mk (blk_below (g := gb294) (o := .cells #[.int .u64 a0_0,.int .i64 a0_1,.int .i64 a0_2,.slice A0_3 l0_3.length c0_3,.slice A0_4 l0_4.length c0_4,.slice A0_5 l0_5.length c0_5] 32 (0,0)) (by (with_reducible repeat (first|refine blk_drewN ?_ _|refine blk_drew ?_|refine blk_alloc ?_ _));exact BK294.out) hb)
        have n4_ := Aside0.mk (below_step (by repeat (first|(with_reducible first|exact HB.out|apply below_alloc|apply pw_below_drewN|apply below_drew1|refine below_set ?_ GE290.out|refine below_set ?_ GE291.out|refine below_set ?_ GE294.out)|exact HB.out)) hb)
        clear BK290
        clear BK291
        clear BK294
        clear HB
        have HO297 := n0_
        have BK290 := n1_
        have BK291 := n2_
        have BK294 := n3_
        have HB := n4_
        clear n0_ n1_ n2_ n3_ n4_
        clear hb ho27
        refine hK.out _ _ ⟨(blk_cell BK290.out 0).trans rfl,(blk_cell BK290.out 1).trans rfl,(blk_cell BK290.out 2).trans rfl,(blk_cell BK290.out 3).trans rfl,(blk_cell BK290.out 4).trans rfl,(blk_cell BK290.out 5).trans rfl,(blk_cell BK291.out 0).trans rfl,(blk_cell BK291.out 1).trans rfl,(blk_cell BK291.out 2).trans rfl,(blk_cell BK291.out 3).trans rfl,(blk_cell BK291.out 4).trans rfl,(blk_cell BK291.out 5).trans rfl,(blk_cell BK291.out 6).trans rfl,(blk_cell BK291.out 7).trans rfl⟩ (fun hHeld => ?_)
        clear hK K
        refine norm_ (a' := ?_) ?_ ?_
        rotate_left
        ·show Act.put _ (some 12) _ = _
         simp only [Act.put,List.setIfInBounds_toArray,List.set_cons_zero,List.set_cons_succ,i64_w,i32_w]
         rfl
        refine two_ (i := 3) (j := 5) (Ni := some 15) (Nj := some 17) #[true,true,true,true,true,false,false,false,false] #[true,true,true,false,true,true,false,false,false] rfl rfl rfl rfl (two_of HT_.out (by kernel_rfl)) (by decide) (by decide) (fun K hK => ?_) (fun K hK => ?_)
        ·skip
         refine Kd.R_append_rows_step k42 (w0 := w) w.heap.size (by rfl) (.tmp 12) (.tmp 14) 29 42 (.agg #[(.int .i64 0),(.int .i64 0),(.int .i64 0),(.int .i64 0),(.int .i64 0),(.int .u64 0),(.int .i64 0),(.int .i64 0)]) 64 rfl Tryd.underlying29 info42 rfl (by decide) (by omega) v296 y295 l0_4 _ _ _ (fun k_ => k_ ≠ gb291) (fun _ => False) rfl rfl ?aO ?aR (fun _ _ h => h) (fun _ h => h.elim) ?aF ?aB ?aS ?aL ?_
         (case aR => repeat (first|exact (Kd.C_below HR0_4.out HB.out)|(with_reducible refine Kd.C_alloc ?_ _)|(with_reducible refine Kd.C_drewN ?_ _)|(with_reducible refine Kd.C_drew ?_)))
         (case aB => exact (by repeat (first|(with_reducible first|exact HB.out|apply below_alloc|apply pw_below_drewN|apply below_drew1|refine below_set ?_ GE290.out|refine below_set ?_ GE291.out|refine below_set ?_ GE294.out)|exact HB.out)))
         (case aF => exact (fun k_ hk => Kd.freshB (g := gb291) (o := .cells #[.int .i64 a1_0,.int .i64 a1_1,.int .i64 a1_2,.int .i64 a1_3,.int .i64 a1_4,.int .u64 a1_5,.int .i64 a1_6,.int .i64 a1_7] 42 (0,0)) (by (with_reducible repeat (first|refine blk_drewN ?_ _|refine blk_drew ?_|refine blk_alloc ?_ _));exact BK291.out) k_ hk))
         (case aO => exact (by (with_reducible repeat (first|apply Kd.R_alloc|apply Kd.R_drewN|apply Kd.R_drew));exact Kd.R_mono HO297.out (fun _ hk => hk.2)))
         (case aS => exact (below_size (by repeat (first|(with_reducible first|exact HB.out|apply below_alloc|apply pw_below_drewN|apply below_drew1|refine below_set ?_ GE290.out|refine below_set ?_ GE291.out|refine below_set ?_ GE294.out)|exact HB.out))))
         (case aL => have := LMc7.out;omega)
         intro v299 w28 ho hb hg hat
         rw [← Ny298.out] at ho
         have n0_ := Aside0.mk (blk_grown (g := gb290) (o := .cells #[.int .u64 a0_0,.int .i64 a0_1,.int .i64 a0_2,.slice A0_3 l0_3.length c0_3,.slice A0_4 l0_4.length c0_4,.slice A0_5 l0_5.length c0_5] 32 (0,0)) (by (with_reducible repeat (first|refine blk_drewN ?_ _|refine blk_drew ?_|refine blk_alloc ?_ _));exact BK290.out) hg (Kd.R_ne HO297.out BK290.out (by decide)))
         have n1_ := Aside0.mk (blk_grown (g := gb291) (o := .cells #[.int .i64 a1_0,.int .i64 a1_1,.int .i64 a1_2,.int .i64 a1_3,.int .i64 a1_4,.int .u64 a1_5,.int .i64 a1_6,.int .i64 a1_7] 42 (0,0)) (by (with_reducible repeat (first|refine blk_drewN ?_ _|refine blk_drew ?_|refine blk_alloc ?_ _));exact BK291.out) hg (Kd.R_away HO297.out (fun _ hk => hk.2)))
         have n2_ := Aside0.mk (blk_grown (g := gb294) (o := .cells #[.int .u64 a0_0,.int .i64 a0_1,.int .i64 a0_2,.slice A0_3 l0_3.length c0_3,.slice A0_4 l0_4.length c0_4,.slice A0_5 l0_5.length c0_5] 32 (0,0)) (by (with_reducible repeat (first|refine blk_drewN ?_ _|refine blk_drew ?_|refine blk_alloc ?_ _));exact BK294.out) hg (Kd.R_ne HO297.out BK294.out (by decide)))
         have n3_ := Aside0.mk (hb)
         have n4_ := Aside0.mk (ho)
         clear BK290
         clear BK291
         clear BK294
         clear HB
         clear HO297
         have BK290 := n0_
         have BK291 := n1_
         have BK294 := n2_
         have HB := n3_
         have HO300 := n4_
         clear n0_ n1_ n2_ n3_ n4_
         clear ho hb hg hat
         refine hK.out _ _ ⟨(blk_cell BK290.out 0).trans rfl,(blk_cell BK290.out 1).trans rfl,(blk_cell BK290.out 2).trans rfl,(blk_cell BK290.out 3).trans rfl,(blk_cell BK290.out 4).trans rfl,(blk_cell BK290.out 5).trans rfl,(blk_cell BK291.out 0).trans rfl,(blk_cell BK291.out 1).trans rfl,(blk_cell BK291.out 2).trans rfl,(blk_cell BK291.out 3).trans rfl,(blk_cell BK291.out 4).trans rfl,(blk_cell BK291.out 5).trans rfl,(blk_cell BK291.out 6).trans rfl,(blk_cell BK291.out 7).trans rfl⟩ (fun hHeld => ?_)
         clear hK K
         refine norm_ (a' := ?_) ?_ ?_
         rotate_left
         ·show Act.put _ (some 15) _ = _
          simp only [Act.put,List.setIfInBounds_toArray,List.set_cons_zero,List.set_cons_succ,i64_w,i32_w]
          rfl
         refine one_ (i := 5) (N := some 17) #[true,true,true,true,true,true,false,false,false] rfl rfl (one_of HT_.out (by kernel_rfl)) (by decide) (fun K hK => ?_)
         refine Kd.R_lit_step k42 _ 42 ?hg (N := 17) ?hd (xs := ([(⟨a1_0,a1_1,a1_2,a1_3,a1_4,a1_5,a1_6,a1_7⟩ : S42)] : List (S42))) (inner := [.int .i64 a1_0,.int .i64 a1_1,.int .i64 a1_2,.int .i64 a1_3,.int .i64 a1_4,.int .u64 a1_5,.int .i64 a1_6,.int .i64 a1_7]) (ok := fun _ => True) (okp := fun _ => True) ?hr ?hp (fun _ hk => hk) trivial (Below.refl _ _) (Nat.le_refl _) (by simp) ?_;(case hd => rfl);(case hg => rfl);(case hr => first|(go_simp;done)|(go_simp;rfl));(case hp => exact (Reps.c8 (show Kd.M k42 _ _ _ (⟨a1_0,a1_1,a1_2,a1_3,a1_4,a1_5,a1_6,a1_7⟩ : S42) [.int .i64 a1_0,.int .i64 a1_1,.int .i64 a1_2,.int .i64 a1_3,.int .i64 a1_4,.int .u64 a1_5,.int .i64 a1_6,.int .i64 a1_7] from (k42_mkM _ _ _ (⟨a1_0,a1_1,a1_2,a1_3,a1_4,a1_5,a1_6,a1_7⟩ : S42) )) (Reps.none _ _)))
         intro v302 w29 ho30 hb hg_ hnew_
         clear hg_ hnew_
         (first|rw [← Ny301.out] at ho30|(simp only [Int.reduceToNat] at ho30;rw [← Ny301.out] at ho30))
         have n0_ := Aside0.mk (Kd.R_elder' (by (with_reducible repeat (first|apply Kd.R_alloc|apply Kd.R_drewN|apply Kd.R_drew));exact HO300.out) (Kd.R_base ho30) hb)
         have n1_ := Aside0.mk (Kd.R_lower (Kd.R_newB (Kd.R_new' ho30 (Kd.R_lt (by (with_reducible repeat (first|apply Kd.R_alloc|apply Kd.R_drewN|apply Kd.R_drew));exact HO300.out))) (g := gb291) (o := .cells #[.int .i64 a1_0,.int .i64 a1_1,.int .i64 a1_2,.int .i64 a1_3,.int .i64 a1_4,.int .u64 a1_5,.int .i64 a1_6,.int .i64 a1_7] 42 (0,0)) (by (with_reducible repeat (first|refine blk_drewN ?_ _|refine blk_drew ?_|refine blk_alloc ?_ _));exact BK291.out)) (below_size (by repeat (first|(with_reducible first|exact HB.out|apply below_alloc|apply pw_below_drewN|apply below_drew1|refine below_set ?_ GE290.out|refine below_set ?_ GE291.out|refine below_set ?_ GE294.out)|exact HB.out))))
         have n2_ := Aside0.mk (blk_below (g := gb290) (o := .cells #[.int .u64 a0_0,.int .i64 a0_1,.int .i64 a0_2,.slice A0_3 l0_3.length c0_3,.slice A0_4 l0_4.length c0_4,.slice A0_5 l0_5.length c0_5] 32 (0,0)) (by (with_reducible repeat (first|refine blk_drewN ?_ _|refine blk_drew ?_|refine blk_alloc ?_ _));exact BK290.out) hb)
         have n3_ := Aside0.mk (blk_below (g := gb291) (o := .cells #[.int .i64 a1_0,.int .i64 a1_1,.int .i64 a1_2,.int .i64 a1_3,.int .i64 a1_4,.int .u64 a1_5,.int .i64 a1_6,.int .i64 a1_7] 42 (0,0)) (by (with_reducible repeat (first|refine blk_drewN ?_ _|refine blk_drew ?_|refine blk_alloc ?_ _));exact BK291.out) hb)
         have n4_ := Aside0.mk (blk_below (g := gb294) (o := .cells #[.int .u64 a0_0,.int .i64 a0_1,.int .i64 a0_2,.slice A0_3 l0_3.length c0_3,.slice A0_4 l0_4.length c0_4,.slice A0_5 l0_5.length c0_5] 32 (0,0)) (by (with_reducible repeat (first|refine blk_drewN ?_ _|refine blk_drew ?_|refine blk_alloc ?_ _));exact BK294.out) hb)
         have n5_ := Aside0.mk (below_step (by repeat (first|(with_reducible first|exact HB.out|apply below_alloc|apply pw_below_drewN|apply below_drew1|refine below_set ?_ GE290.out|refine below_set ?_ GE291.out|refine below_set ?_ GE294.out)|exact HB.out)) hb)
         clear HO300
         clear BK290
         clear BK291
         clear BK294
         clear HB
         have HO300 := n0_
         have HO303 := n1_
         have BK290 := n2_
         have BK291 := n3_
         have BK294 := n4_
         have HB := n5_
         clear n0_ n1_ n2_ n3_ n4_ n5_
         clear hb ho30
         refine hK.out _ _ ⟨(blk_cell BK290.out 0).trans rfl,(blk_cell BK290.out 1).trans rfl,(blk_cell BK290.out 2).trans rfl,(blk_cell BK290.out 3).trans rfl,(blk_cell BK290.out 4).trans rfl,(blk_cell BK290.out 5).trans rfl,(blk_cell BK291.out 0).trans rfl,(blk_cell BK291.out 1).trans rfl,(blk_cell BK291.out 2).trans rfl,(blk_cell BK291.out 3).trans rfl,(blk_cell BK291.out 4).trans rfl,(blk_cell BK291.out 5).trans rfl,(blk_cell BK291.out 6).trans rfl,(blk_cell BK291.out 7).trans rfl⟩ (fun hHeld => ?_)
         clear hK K
         refine norm_ (a' := ?_) ?_ ?_
         rotate_left
         ·show Act.put _ (some 17) _ = _
          simp only [Act.put,List.setIfInBounds_toArray,List.set_cons_zero,List.set_cons_succ,i64_w,i32_w]
          rfl
         exact norm_ (by simp only [putAll,Act.put,List.setIfInBounds_toArray,List.set_cons_zero,List.set_cons_succ]) (hCont (v296,v299,v302) _ ⟨hHeld,(by (with_reducible repeat (first|apply Kd.R_alloc|apply Kd.R_drewN|apply Kd.R_drew));exact Kd.R_mono HO300.out (fun _ hk => ⟨hk.2,hk.1⟩)),(by (with_reducible repeat (first|apply Kd.R_alloc|apply Kd.R_drewN|apply Kd.R_drew));exact Kd.R_mono HO303.out (fun _ hk => ⟨hk.1.2,hk.2⟩)),(by (with_reducible repeat (first|refine blk_drewN ?_ _|refine blk_drew ?_|refine blk_alloc ?_ _));exact BK290.out),(by (with_reducible repeat (first|refine blk_drewN ?_ _|refine blk_drew ?_|refine blk_alloc ?_ _));exact BK291.out),(by (with_reducible repeat (first|refine blk_drewN ?_ _|refine blk_drew ?_|refine blk_alloc ?_ _));exact BK294.out),(by repeat (first|(with_reducible first|exact HB.out|apply below_alloc|apply pw_below_drewN|apply below_drew1|refine below_set ?_ GE290.out|refine below_set ?_ GE291.out|refine below_set ?_ GE294.out)|exact HB.out))⟩)
        ·skip
         refine Kd.R_lit_step k42 _ 42 ?hg (N := 17) ?hd (xs := ([(⟨a1_0,a1_1,a1_2,a1_3,a1_4,a1_5,a1_6,a1_7⟩ : S42)] : List (S42))) (inner := [.int .i64 a1_0,.int .i64 a1_1,.int .i64 a1_2,.int .i64 a1_3,.int .i64 a1_4,.int .u64 a1_5,.int .i64 a1_6,.int .i64 a1_7]) (ok := fun _ => True) (okp := fun _ => True) ?hr ?hp (fun _ hk => hk) trivial (Below.refl _ _) (Nat.le_refl _) (by simp) ?_;(case hd => rfl);(case hg => rfl);(case hr => first|(go_simp;done)|(go_simp;rfl));(case hp => exact (Reps.c8 (show Kd.M k42 _ _ _ (⟨a1_0,a1_1,a1_2,a1_3,a1_4,a1_5,a1_6,a1_7⟩ : S42) [.int .i64 a1_0,.int .i64 a1_1,.int .i64 a1_2,.int .i64 a1_3,.int .i64 a1_4,.int .u64 a1_5,.int .i64 a1_6,.int .i64 a1_7] from (k42_mkM _ _ _ (⟨a1_0,a1_1,a1_2,a1_3,a1_4,a1_5,a1_6,a1_7⟩ : S42) )) (Reps.none _ _)))
         intro v302 w28 ho29 hb hg_ hnew_
         clear hg_ hnew_
         (first|rw [← Ny301.out] at ho29|(simp only [Int.reduceToNat] at ho29;rw [← Ny301.out] at ho29))
         have n0_ := Aside0.mk (Kd.R_elder' (by (with_reducible repeat (first|apply Kd.R_alloc|apply Kd.R_drewN|apply Kd.R_drew));exact HO297.out) (Kd.R_base ho29) hb)
         have n1_ := Aside0.mk (Kd.R_lower (Kd.R_newB (Kd.R_new' ho29 (Kd.R_lt (by (with_reducible repeat (first|apply Kd.R_alloc|apply Kd.R_drewN|apply Kd.R_drew));exact HO297.out))) (g := gb291) (o := .cells #[.int .i64 a1_0,.int .i64 a1_1,.int .i64 a1_2,.int .i64 a1_3,.int .i64 a1_4,.int .u64 a1_5,.int .i64 a1_6,.int .i64 a1_7] 42 (0,0)) (by (with_reducible repeat (first|refine blk_drewN ?_ _|refine blk_drew ?_|refine blk_alloc ?_ _));exact BK291.out)) (below_size (by repeat (first|(with_reducible first|exact HB.out|apply below_alloc|apply pw_below_drewN|apply below_drew1|refine below_set ?_ GE290.out|refine below_set ?_ GE291.out|refine below_set ?_ GE294.out)|exact HB.out))))
         have n2_ := Aside0.mk (blk_below (g := gb290) (o := .cells #[.int .u64 a0_0,.int .i64 a0_1,.int .i64 a0_2,.slice A0_3 l0_3.length c0_3,.slice A0_4 l0_4.length c0_4,.slice A0_5 l0_5.length c0_5] 32 (0,0)) (by (with_reducible repeat (first|refine blk_drewN ?_ _|refine blk_drew ?_|refine blk_alloc ?_ _));exact BK290.out) hb)
         have n3_ := Aside0.mk (blk_below (g := gb291) (o := .cells #[.int .i64 a1_0,.int .i64 a1_1,.int .i64 a1_2,.int .i64 a1_3,.int .i64 a1_4,.int .u64 a1_5,.int .i64 a1_6,.int .i64 a1_7] 42 (0,0)) (by (with_reducible repeat (first|refine blk_drewN ?_ _|refine blk_drew ?_|refine blk_alloc ?_ _));exact BK291.out) hb)
         have n4_ := Aside0.mk (blk_below (g := gb294) (o := .cells #[.int .u64 a0_0,.int .i64 a0_1,.int .i64 a0_2,.slice A0_3 l0_3.length c0_3,.slice A0_4 l0_4.length c0_4,.slice A0_5 l0_5.length c0_5] 32 (0,0)) (by (with_reducible repeat (first|refine blk_drewN ?_ _|refine blk_drew ?_|refine blk_alloc ?_ _));exact BK294.out) hb)
         have n5_ := Aside0.mk (below_step (by repeat (first|(with_reducible first|exact HB.out|apply below_alloc|apply pw_below_drewN|apply below_drew1|refine below_set ?_ GE290.out|refine below_set ?_ GE291.out|refine below_set ?_ GE294.out)|exact HB.out)) hb)
         clear HO297
         clear BK290
         clear BK291
         clear BK294
         clear HB
         have HO297 := n0_
         have HO303 := n1_
         have BK290 := n2_
         have BK291 := n3_
         have BK294 := n4_
         have HB := n5_
         clear n0_ n1_ n2_ n3_ n4_ n5_
         clear hb ho29
         refine hK.out _ _ ⟨(blk_cell BK290.out 0).trans rfl,(blk_cell BK290.out 1).trans rfl,(blk_cell BK290.out 2).trans rfl,(blk_cell BK290.out 3).trans rfl,(blk_cell BK290.out 4).trans rfl,(blk_cell BK290.out 5).trans rfl,(blk_cell BK291.out 0).trans rfl,(blk_cell BK291.out 1).trans rfl,(blk_cell BK291.out 2).trans rfl,(blk_cell BK291.out 3).trans rfl,(blk_cell BK291.out 4).trans rfl,(blk_cell BK291.out 5).trans rfl,(blk_cell BK291.out 6).trans rfl,(blk_cell BK291.out 7).trans rfl⟩ (fun hHeld => ?_)
         clear hK K
         refine norm_ (a' := ?_) ?_ ?_
         rotate_left
         ·show Act.put _ (some 17) _ = _
          simp only [Act.put,List.setIfInBounds_toArray,List.set_cons_zero,List.set_cons_succ,i64_w,i32_w]
          rfl
         refine one_ (i := 3) (N := some 15) #[true,true,true,true,true,true,false,false,false] rfl rfl (one_of HT_.out (by kernel_rfl)) (by decide) (fun K hK => ?_)
         refine Kd.R_append_rows_step k42 (w0 := w) w.heap.size (by rfl) (.tmp 12) (.tmp 14) 29 42 (.agg #[(.int .i64 0),(.int .i64 0),(.int .i64 0),(.int .i64 0),(.int .i64 0),(.int .u64 0),(.int .i64 0),(.int .i64 0)]) 64 rfl Tryd.underlying29 info42 rfl (by decide) (by omega) v296 y295 l0_4 _ _ _ (fun k_ => some k_ ≠ (v302 : Value).ownBlock ∧ k_ ≠ gb291) (fun _ => False) rfl rfl ?aO ?aR (fun _ _ h => h) (fun _ h => h.elim) ?aF ?aB ?aS ?aL ?_
         (case aR => repeat (first|exact (Kd.C_below HR0_4.out HB.out)|(with_reducible refine Kd.C_alloc ?_ _)|(with_reducible refine Kd.C_drewN ?_ _)|(with_reducible refine Kd.C_drew ?_)))
         (case aB => exact (by repeat (first|(with_reducible first|exact HB.out|apply below_alloc|apply pw_below_drewN|apply below_drew1|refine below_set ?_ GE290.out|refine below_set ?_ GE291.out|refine below_set ?_ GE294.out)|exact HB.out)))
         (case aF => exact (fun k_ hk => ⟨Kd.fresh' (Kd.R_lt (by (with_reducible repeat (first|apply Kd.R_alloc|apply Kd.R_drewN|apply Kd.R_drew));exact HO303.out)) k_ hk,Kd.freshB (g := gb291) (o := .cells #[.int .i64 a1_0,.int .i64 a1_1,.int .i64 a1_2,.int .i64 a1_3,.int .i64 a1_4,.int .u64 a1_5,.int .i64 a1_6,.int .i64 a1_7] 42 (0,0)) (by (with_reducible repeat (first|refine blk_drewN ?_ _|refine blk_drew ?_|refine blk_alloc ?_ _));exact BK291.out) k_ hk⟩))
         (case aO => exact (by (with_reducible repeat (first|apply Kd.R_alloc|apply Kd.R_drewN|apply Kd.R_drew));exact Kd.R_mono HO297.out (fun _ hk => ⟨hk.2,hk.1.2⟩)))
         (case aS => exact (below_size (by repeat (first|(with_reducible first|exact HB.out|apply below_alloc|apply pw_below_drewN|apply below_drew1|refine below_set ?_ GE290.out|refine below_set ?_ GE291.out|refine below_set ?_ GE294.out)|exact HB.out))))
         (case aL => have := LMc7.out;omega)
         intro v299 w30 ho hb hg hat
         rw [← Ny298.out] at ho
         have n0_ := Aside0.mk (blk_grown (g := gb290) (o := .cells #[.int .u64 a0_0,.int .i64 a0_1,.int .i64 a0_2,.slice A0_3 l0_3.length c0_3,.slice A0_4 l0_4.length c0_4,.slice A0_5 l0_5.length c0_5] 32 (0,0)) (by (with_reducible repeat (first|refine blk_drewN ?_ _|refine blk_drew ?_|refine blk_alloc ?_ _));exact BK290.out) hg (Kd.R_ne HO297.out BK290.out (by decide)))
         have n1_ := Aside0.mk (blk_grown (g := gb291) (o := .cells #[.int .i64 a1_0,.int .i64 a1_1,.int .i64 a1_2,.int .i64 a1_3,.int .i64 a1_4,.int .u64 a1_5,.int .i64 a1_6,.int .i64 a1_7] 42 (0,0)) (by (with_reducible repeat (first|refine blk_drewN ?_ _|refine blk_drew ?_|refine blk_alloc ?_ _));exact BK291.out) hg (Kd.R_away HO297.out (fun _ hk => hk.1.2)))
         have n2_ := Aside0.mk (blk_grown (g := gb294) (o := .cells #[.int .u64 a0_0,.int .i64 a0_1,.int .i64 a0_2,.slice A0_3 l0_3.length c0_3,.slice A0_4 l0_4.length c0_4,.slice A0_5 l0_5.length c0_5] 32 (0,0)) (by (with_reducible repeat (first|refine blk_drewN ?_ _|refine blk_drew ?_|refine blk_alloc ?_ _));exact BK294.out) hg (Kd.R_ne HO297.out BK294.out (by decide)))
         have n3_ := Aside0.mk (Kd.R_after (ok := (fun k_ => k_ ≠ gb291)) (by (with_reducible repeat (first|apply Kd.R_alloc|apply Kd.R_drewN|apply Kd.R_drew));exact Kd.R_mono HO303.out (fun _ hk => ⟨hk.2,hk.1.2⟩)) hg hat)
         have n4_ := Aside0.mk (hb)
         have n5_ := Aside0.mk (ho)
         clear BK290
         clear BK291
         clear BK294
         clear HO303
         clear HB
         clear HO297
         have BK290 := n0_
         have BK291 := n1_
         have BK294 := n2_
         have HO303 := n3_
         have HB := n4_
         have HO300 := n5_
         clear n0_ n1_ n2_ n3_ n4_ n5_
         clear ho hb hg hat
         refine hK.out _ _ ⟨(blk_cell BK290.out 0).trans rfl,(blk_cell BK290.out 1).trans rfl,(blk_cell BK290.out 2).trans rfl,(blk_cell BK290.out 3).trans rfl,(blk_cell BK290.out 4).trans rfl,(blk_cell BK290.out 5).trans rfl,(blk_cell BK291.out 0).trans rfl,(blk_cell BK291.out 1).trans rfl,(blk_cell BK291.out 2).trans rfl,(blk_cell BK291.out 3).trans rfl,(blk_cell BK291.out 4).trans rfl,(blk_cell BK291.out 5).trans rfl,(blk_cell BK291.out 6).trans rfl,(blk_cell BK291.out 7).trans rfl⟩ (fun hHeld => ?_)
         clear hK K
         refine norm_ (a' := ?_) ?_ ?_
         rotate_left
         ·show Act.put _ (some 15) _ = _
          simp only [Act.put,List.setIfInBounds_toArray,List.set_cons_zero,List.set_cons_succ,i64_w,i32_w]
          rfl
         exact norm_ (by simp only [putAll,Act.put,List.setIfInBounds_toArray,List.set_cons_zero,List.set_cons_succ]) (hCont (v296,v299,v302) _ ⟨hHeld,(by (with_reducible repeat (first|apply Kd.R_alloc|apply Kd.R_drewN|apply Kd.R_drew));exact HO300.out),(by (with_reducible repeat (first|apply Kd.R_alloc|apply Kd.R_drewN|apply Kd.R_drew));exact Kd.R_mono HO303.out (fun _ hk => ⟨hk.2,hk.1⟩)),(by (with_reducible repeat (first|refine blk_drewN ?_ _|refine blk_drew ?_|refine blk_alloc ?_ _));exact BK290.out),(by (with_reducible repeat (first|refine blk_drewN ?_ _|refine blk_drew ?_|refine blk_alloc ?_ _));exact BK291.out),(by (with_reducible repeat (first|refine blk_drewN ?_ _|refine blk_drew ?_|refine blk_alloc ?_ _));exact BK294.out),(by repeat (first|(with_reducible first|exact HB.out|apply below_alloc|apply pw_below_drewN|apply below_drew1|refine below_set ?_ GE290.out|refine below_set ?_ GE291.out|refine below_set ?_ GE294.out)|exact HB.out))⟩)
       ·skip
        refine Kd.R_lit_step k42 _ 42 ?hg (N := 17) ?hd (xs := ([(⟨a1_0,a1_1,a1_2,a1_3,a1_4,a1_5,a1_6,a1_7⟩ : S42)] : List (S42))) (inner := [.int .i64 a1_0,.int .i64 a1_1,.int .i64 a1_2,.int .i64 a1_3,.int .i64 a1_4,.int .u64 a1_5,.int .i64 a1_6,.int .i64 a1_7]) (ok := fun _ => True) (okp := fun _ => True) ?hr ?hp (fun _ hk => hk) trivial (Below.refl _ _) (Nat.le_refl _) (by simp) ?_;(case hd => rfl);(case hg => rfl);(case hr => first|(go_simp;done)|(go_simp;rfl));(case hp => exact (Reps.c8 (show Kd.M k42 _ _ _ (⟨a1_0,a1_1,a1_2,a1_3,a1_4,a1_5,a1_6,a1_7⟩ : S42) [.int .i64 a1_0,.int .i64 a1_1,.int .i64 a1_2,.int .i64 a1_3,.int .i64 a1_4,.int .u64 a1_5,.int .i64 a1_6,.int .i64 a1_7] from (k42_mkM _ _ _ (⟨a1_0,a1_1,a1_2,a1_3,a1_4,a1_5,a1_6,a1_7⟩ : S42) )) (Reps.none _ _)))
        intro v302 w26 ho27 hb hg_ hnew_
        clear hg_ hnew_
        (first|rw [← Ny301.out] at ho27|(simp only [Int.reduceToNat] at ho27;rw [← Ny301.out] at ho27))
        have n0_ := Aside0.mk (Kd.R_lower (Kd.R_newB ho27 (g := gb291) (o := .cells #[.int .i64 a1_0,.int .i64 a1_1,.int .i64 a1_2,.int .i64 a1_3,.int .i64 a1_4,.int .u64 a1_5,.int .i64 a1_6,.int .i64 a1_7] 42 (0,0)) (by (with_reducible repeat (first|refine blk_drewN ?_ _|refine blk_drew ?_|refine blk_alloc ?_ _));exact BK291.out)) (below_size (by repeat (first|(with_reducible first|exact HB.out|apply below_alloc|apply pw_below_drewN|apply below_drew1|refine below_set ?_ GE290.out|refine below_set ?_ GE291.out|refine below_set ?_ GE294.out)|exact HB.out))))
        have n1_ := Aside0.mk (blk_below (g := gb290) (o := .cells #[.int .u64 a0_0,.int .i64 a0_1,.int .i64 a0_2,.slice A0_3 l0_3.length c0_3,.slice A0_4 l0_4.length c0_4,.slice A0_5 l0_5.length c0_5] 32 (0,0)) (by (with_reducible repeat (first|refine blk_drewN ?_ _|refine blk_drew ?_|refine blk_alloc ?_ _));exact BK290.out) hb)
        have n2_ := Aside0.mk (blk_below (g := gb291) (o := .cells #[.int .i64 a1_0,.int .i64 a1_1,.int .i64 a1_2,.int .i64 a1_3,.int .i64 a1_4,.int .u64 a1_5,.int .i64 a1_6,.int .i64 a1_7] 42 (0,0)) (by (with_reducible repeat (first|refine blk_drewN ?_ _|refine blk_drew ?_|refine blk_alloc ?_ _));exact BK291.out) hb)
        have n3_ := Aside0.mk (blk_below (g := gb294) (o := .cells #[.int .u64 a0_0,.int .i64 a0_1,.int .i64 a0_2,.slice A0_3 l0_3.length c0_3,.slice A0_4 l0_4.length c0_4,.slice A0_5 l0_5.length c0_5] 32 (0,0)) (by (with_reducible repeat (first|refine blk_drewN ?_ _|refine blk_drew ?_|refine blk_alloc ?_ _));exact BK294.out) hb)
        have n4_ := Aside0.mk (below_step (by repeat (first|(with_reducible first|exact HB.out|apply below_alloc|apply pw_below_drewN|apply below_drew1|refine below_set ?_ GE290.out|refine below_set ?_ GE291.out|refine below_set ?_ GE294.out)|exact HB.out)) hb)
        clear BK290
        clear BK291
        clear BK294
        clear HB
        have HO303 := n0_
        have BK290 := n1_
        have BK291 := n2_
        have BK294 := n3_
        have HB := n4_
        clear n0_ n1_ n2_ n3_ n4_
        clear hb ho27
        refine hK.out _ _ ⟨(blk_cell BK290.out 0).trans rfl,(blk_cell BK290.out 1).trans rfl,(blk_cell BK290.out 2).trans rfl,(blk_cell BK290.out 3).trans rfl,(blk_cell BK290.out 4).trans rfl,(blk_cell BK290.out 5).trans rfl,(blk_cell BK291.out 0).trans rfl,(blk_cell BK291.out 1).trans rfl,(blk_cell BK291.out 2).trans rfl,(blk_cell BK291.out 3).trans rfl,(blk_cell BK291.out 4).trans rfl,(blk_cell BK291.out 5).trans rfl,(blk_cell BK291.out 6).trans rfl,(blk_cell BK291.out 7).trans rfl⟩ (fun hHeld => ?_)
        clear hK K
        refine norm_ (a' := ?_) ?_ ?_
        rotate_left
        ·show Act.put _ (some 17) _ = _
         simp only [Act.put,List.setIfInBounds_toArray,List.set_cons_zero,List.set_cons_succ,i64_w,i32_w]
         rfl
        refine one_ (i := 0) (N := some 12) #[true,true,true,false,true,true,false,false,false] rfl rfl (one_of HT_.out (by kernel_rfl)) (by decide) (fun K hK => ?_)
        refine Kd.R_lit_step k42 _ 42 ?hg (N := 12) ?hd (xs := ([] : List (S42))) (inner := []) (ok := fun _ => True) (okp := fun _ => True) ?hr ?hp (fun _ hk => hk) trivial (Below.refl _ _) (Nat.le_refl _) (by simp) ?_;(case hd => rfl);(case hg => rfl);(case hr => first|(go_simp;done)|(go_simp;rfl));(case hp => exact (Reps.none _ _))
        intro v296 w28 ho29 hb hg_ hnew_
        clear hg_ hnew_
        (first|rw [← Ny295.out] at ho29|(simp only [Int.reduceToNat] at ho29;rw [← Ny295.out] at ho29))
        have n0_ := Aside0.mk (Kd.R_elder' (by (with_reducible repeat (first|apply Kd.R_alloc|apply Kd.R_drewN|apply Kd.R_drew));exact HO303.out) (Kd.R_base ho29) hb)
        have n1_ := Aside0.mk (Kd.R_lower (Kd.R_newB (Kd.R_new' ho29 (Kd.R_lt (by (with_reducible repeat (first|apply Kd.R_alloc|apply Kd.R_drewN|apply Kd.R_drew));exact HO303.out))) (g := gb291) (o := .cells #[.int .i64 a1_0,.int .i64 a1_1,.int .i64 a1_2,.int .i64 a1_3,.int .i64 a1_4,.int .u64 a1_5,.int .i64 a1_6,.int .i64 a1_7] 42 (0,0)) (by (with_reducible repeat (first|refine blk_drewN ?_ _|refine blk_drew ?_|refine blk_alloc ?_ _));exact BK291.out)) (below_size (by repeat (first|(with_reducible first|exact HB.out|apply below_alloc|apply pw_below_drewN|apply below_drew1|refine below_set ?_ GE290.out|refine below_set ?_ GE291.out|refine below_set ?_ GE294.out)|exact HB.out))))
        have n2_ := Aside0.mk (blk_below (g := gb290) (o := .cells #[.int .u64 a0_0,.int .i64 a0_1,.int .i64 a0_2,.slice A0_3 l0_3.length c0_3,.slice A0_4 l0_4.length c0_4,.slice A0_5 l0_5.length c0_5] 32 (0,0)) (by (with_reducible repeat (first|refine blk_drewN ?_ _|refine blk_drew ?_|refine blk_alloc ?_ _));exact BK290.out) hb)
        have n3_ := Aside0.mk (blk_below (g := gb291) (o := .cells #[.int .i64 a1_0,.int .i64 a1_1,.int .i64 a1_2,.int .i64 a1_3,.int .i64 a1_4,.int .u64 a1_5,.int .i64 a1_6,.int .i64 a1_7] 42 (0,0)) (by (with_reducible repeat (first|refine blk_drewN ?_ _|refine blk_drew ?_|refine blk_alloc ?_ _));exact BK291.out) hb)
        have n4_ := Aside0.mk (blk_below (g := gb294) (o := .cells #[.int .u64 a0_0,.int .i64 a0_1,.int .i64 a0_2,.slice A0_3 l0_3.length c0_3,.slice A0_4 l0_4.length c0_4,.slice A0_5 l0_5.length c0_5] 32 (0,0)) (by (with_reducible repeat (first|refine blk_drewN ?_ _|refine blk_drew ?_|refine blk_alloc ?_ _));exact BK294.out) hb)
        have n5_ := Aside0.mk (below_step (by repeat (first|(with_reducible first|exact HB.out|apply below_alloc|apply pw_below_drewN|apply below_drew1|refine below_set ?_ GE290.out|refine below_set ?_ GE291.out|refine below_set ?_ GE294.out)|exact HB.out)) hb)
        clear HO303
        clear BK290
        clear BK291
        clear BK294
        clear HB
        have HO303 := n0_
        have HO297 := n1_
        have BK290 := n2_
        have BK291 := n3_
        have BK294 := n4_
        have HB := n5_
        clear n0_ n1_ n2_ n3_ n4_ n5_
        clear hb ho29
        refine hK.out _ _ ⟨(blk_cell BK290.out 0).trans rfl,(blk_cell BK290.out 1).trans rfl,(blk_cell BK290.out 2).trans rfl,(blk_cell BK290.out 3).trans rfl,(blk_cell BK290.out 4).trans rfl,(blk_cell BK290.out 5).trans rfl,(blk_cell BK291.out 0).trans rfl,(blk_cell BK291.out 1).trans rfl,(blk_cell BK291.out 2).trans rfl,(blk_cell BK291.out 3).trans rfl,(blk_cell BK291.out 4).trans rfl,(blk_cell BK291.out 5).trans rfl,(blk_cell BK291.out 6).trans rfl,(blk_cell BK291.out 7).trans rfl⟩ (fun hHeld => ?_)
        clear hK K
        refine norm_ (a' := ?_) ?_ ?_
        rotate_left
        ·show Act.put _ (some 12) _ = _
         simp only [Act.put,List.setIfInBounds_toArray,List.set_cons_zero,List.set_cons_succ,i64_w,i32_w]
         rfl
        refine one_ (i := 3) (N := some 15) #[true,true,true,true,true,true,false,false,false] rfl rfl (one_of HT_.out (by kernel_rfl)) (by decide) (fun K hK => ?_)
        refine Kd.R_append_rows_step k42 (w0 := w) w.heap.size (by rfl) (.tmp 12) (.tmp 14) 29 42 (.agg #[(.int .i64 0),(.int .i64 0),(.int .i64 0),(.int .i64 0),(.int .i64 0),(.int .u64 0),(.int .i64 0),(.int .i64 0)]) 64 rfl Tryd.underlying29 info42 rfl (by decide) (by omega) v296 y295 l0_4 _ _ _ (fun k_ => some k_ ≠ (v302 : Value).ownBlock ∧ k_ ≠ gb291) (fun _ => False) rfl rfl ?aO ?aR (fun _ _ h => h) (fun _ h => h.elim) ?aF ?aB ?aS ?aL ?_
        (case aR => repeat (first|exact (Kd.C_below HR0_4.out HB.out)|(with_reducible refine Kd.C_alloc ?_ _)|(with_reducible refine Kd.C_drewN ?_ _)|(with_reducible refine Kd.C_drew ?_)))
        (case aB => exact (by repeat (first|(with_reducible first|exact HB.out|apply below_alloc|apply pw_below_drewN|apply below_drew1|refine below_set ?_ GE290.out|refine below_set ?_ GE291.out|refine below_set ?_ GE294.out)|exact HB.out)))
        (case aF => exact (fun k_ hk => ⟨Kd.fresh' (Kd.R_lt (by (with_reducible repeat (first|apply Kd.R_alloc|apply Kd.R_drewN|apply Kd.R_drew));exact HO303.out)) k_ hk,Kd.freshB (g := gb291) (o := .cells #[.int .i64 a1_0,.int .i64 a1_1,.int .i64 a1_2,.int .i64 a1_3,.int .i64 a1_4,.int .u64 a1_5,.int .i64 a1_6,.int .i64 a1_7] 42 (0,0)) (by (with_reducible repeat (first|refine blk_drewN ?_ _|refine blk_drew ?_|refine blk_alloc ?_ _));exact BK291.out) k_ hk⟩))
        (case aO => exact (by (with_reducible repeat (first|apply Kd.R_alloc|apply Kd.R_drewN|apply Kd.R_drew));exact Kd.R_mono HO297.out (fun _ hk => ⟨hk.1.2,hk.2⟩)))
        (case aS => exact (below_size (by repeat (first|(with_reducible first|exact HB.out|apply below_alloc|apply pw_below_drewN|apply below_drew1|refine below_set ?_ GE290.out|refine below_set ?_ GE291.out|refine below_set ?_ GE294.out)|exact HB.out))))
        (case aL => have := LMc7.out;omega)
        intro v299 w30 ho hb hg hat
        rw [← Ny298.out] at ho
        have n0_ := Aside0.mk (blk_grown (g := gb290) (o := .cells #[.int .u64 a0_0,.int .i64 a0_1,.int .i64 a0_2,.slice A0_3 l0_3.length c0_3,.slice A0_4 l0_4.length c0_4,.slice A0_5 l0_5.length c0_5] 32 (0,0)) (by (with_reducible repeat (first|refine blk_drewN ?_ _|refine blk_drew ?_|refine blk_alloc ?_ _));exact BK290.out) hg (Kd.R_ne HO297.out BK290.out (by decide)))
        have n1_ := Aside0.mk (blk_grown (g := gb291) (o := .cells #[.int .i64 a1_0,.int .i64 a1_1,.int .i64 a1_2,.int .i64 a1_3,.int .i64 a1_4,.int .u64 a1_5,.int .i64 a1_6,.int .i64 a1_7] 42 (0,0)) (by (with_reducible repeat (first|refine blk_drewN ?_ _|refine blk_drew ?_|refine blk_alloc ?_ _));exact BK291.out) hg (Kd.R_away HO297.out (fun _ hk => hk.2)))
        have n2_ := Aside0.mk (blk_grown (g := gb294) (o := .cells #[.int .u64 a0_0,.int .i64 a0_1,.int .i64 a0_2,.slice A0_3 l0_3.length c0_3,.slice A0_4 l0_4.length c0_4,.slice A0_5 l0_5.length c0_5] 32 (0,0)) (by (with_reducible repeat (first|refine blk_drewN ?_ _|refine blk_drew ?_|refine blk_alloc ?_ _));exact BK294.out) hg (Kd.R_ne HO297.out BK294.out (by decide)))
        have n3_ := Aside0.mk (Kd.R_after (ok := (fun k_ => k_ ≠ gb291)) (by (with_reducible repeat (first|apply Kd.R_alloc|apply Kd.R_drewN|apply Kd.R_drew));exact Kd.R_mono HO303.out (fun _ hk => ⟨hk.1.2,hk.2⟩)) hg hat)
        have n4_ := Aside0.mk (hb)
        have n5_ := Aside0.mk (ho)
        clear BK290
        clear BK291
        clear BK294
        clear HO303
        clear HB
        clear HO297
        have BK290 := n0_
        have BK291 := n1_
        have BK294 := n2_
        have HO303 := n3_
        have HB := n4_
        have HO300 := n5_
        clear n0_ n1_ n2_ n3_ n4_ n5_
        clear ho hb hg hat
        refine hK.out _ _ ⟨(blk_cell BK290.out 0).trans rfl,(blk_cell BK290.out 1).trans rfl,(blk_cell BK290.out 2).trans rfl,(blk_cell BK290.out 3).trans rfl,(blk_cell BK290.out 4).trans rfl,(blk_cell BK290.out 5).trans rfl,(blk_cell BK291.out 0).trans rfl,(blk_cell BK291.out 1).trans rfl,(blk_cell BK291.out 2).trans rfl,(blk_cell BK291.out 3).trans rfl,(blk_cell BK291.out 4).trans rfl,(blk_cell BK291.out 5).trans rfl,(blk_cell BK291.out 6).trans rfl,(blk_cell BK291.out 7).trans rfl⟩ (fun hHeld => ?_)
        clear hK K
        refine norm_ (a' := ?_) ?_ ?_
        rotate_left
        ·show Act.put _ (some 15) _ = _
         simp only [Act.put,List.setIfInBounds_toArray,List.set_cons_zero,List.set_cons_succ,i64_w,i32_w]
         rfl
        exact norm_ (by simp only [putAll,Act.put,List.setIfInBounds_toArray,List.set_cons_zero,List.set_cons_succ]) (hCont (v296,v299,v302) _ ⟨hHeld,(by (with_reducible repeat (first|apply Kd.R_alloc|apply Kd.R_drewN|apply Kd.R_drew));exact HO300.out),(by (with_reducible repeat (first|apply Kd.R_alloc|apply Kd.R_drewN|apply Kd.R_drew));exact Kd.R_mono HO303.out (fun _ hk => ⟨hk.2,hk.1⟩)),(by (with_reducible repeat (first|refine blk_drewN ?_ _|refine blk_drew ?_|refine blk_alloc ?_ _));exact BK290.out),(by (with_reducible repeat (first|refine blk_drewN ?_ _|refine blk_drew ?_|refine blk_alloc ?_ _));exact BK291.out),(by (with_reducible repeat (first|refine blk_drewN ?_ _|refine blk_drew ?_|refine blk_alloc ?_ _));exact BK294.out),(by repeat (first|(with_reducible first|exact HB.out|apply below_alloc|apply pw_below_drewN|apply below_drew1|refine below_set ?_ GE290.out|refine below_set ?_ GE291.out|refine below_set ?_ GE294.out)|exact HB.out))⟩)
      rintro ⟨v296,v299,v302⟩ w31 ⟨hS_,h0_,h1_,h2_,h3_,h4_,h5_⟩
      have n0_ : Aside0 (Kd.R k42 42 w31 w.heap.size (fun k_ => some k_ ≠ (v302 : Value).ownBlock ∧ k_ ≠ gb291) v299 y298) := ⟨h0_⟩
      have n1_ : Aside0 (Kd.R k42 42 w31 w.heap.size (fun k_ => some k_ ≠ (v299 : Value).ownBlock ∧ k_ ≠ gb291) v302 y301) := ⟨h1_⟩
      have n2_ : Aside0 (w31.heap[gb290]? = some (.cells #[.int .u64 a0_0,.int .i64 a0_1,.int .i64 a0_2,.slice A0_3 l0_3.length c0_3,.slice A0_4 l0_4.length c0_4,.slice A0_5 l0_5.length c0_5] 32 (0,0))) := ⟨h2_⟩
      have n3_ : Aside0 (w31.heap[gb291]? = some (.cells #[.int .i64 a1_0,.int .i64 a1_1,.int .i64 a1_2,.int .i64 a1_3,.int .i64 a1_4,.int .u64 a1_5,.int .i64 a1_6,.int .i64 a1_7] 42 (0,0))) := ⟨h3_⟩
      have n4_ : Aside0 (w31.heap[gb294]? = some (.cells #[.int .u64 a0_0,.int .i64 a0_1,.int .i64 a0_2,.slice A0_3 l0_3.length c0_3,.slice A0_4 l0_4.length c0_4,.slice A0_5 l0_5.length c0_5] 32 (0,0))) := ⟨h4_⟩
      have n5_ : Aside0 (Below w.heap.size w w31) := ⟨h5_⟩
      clear BK290
      clear BK291
      clear BK294
      clear HB
      clear h0_ h1_ h2_ h3_ h4_ h5_
      have HO300 := n0_
      have HO303 := n1_
      have BK290 := n2_
      have BK291 := n3_
      have BK294 := n4_
      have HB := n5_
      clear n0_ n1_ n2_ n3_ n4_ n5_
      have hHeld : w31.cell? ⟨gb290,0,none⟩ = some (.int .u64 a0_0) ∧ w31.cell? ⟨gb290,1,none⟩ = some (.int .i64 a0_1) ∧ w31.cell? ⟨gb290,2,none⟩ = some (.int .i64 a0_2) ∧ w31.cell? ⟨gb290,3,none⟩ = some (.slice A0_3 l0_3.length c0_3) ∧ w31.cell? ⟨gb290,4,none⟩ = some (.slice A0_4 l0_4.length c0_4) ∧ w31.cell? ⟨gb290,5,none⟩ = some (.slice A0_5 l0_5.length c0_5) ∧ w31.cell? ⟨gb291,0,none⟩ = some (.int .i64 a1_0) ∧ w31.cell? ⟨gb291,1,none⟩ = some (.int .i64 a1_1) ∧ w31.cell? ⟨gb291,2,none⟩ = some (.int .i64 a1_2) ∧ w31.cell? ⟨gb291,3,none⟩ = some (.int .i64 a1_3) ∧ w31.cell? ⟨gb291,4,none⟩ = some (.int .i64 a1_4) ∧ w31.cell? ⟨gb291,5,none⟩ = some (.int .u64 a1_5) ∧ w31.cell? ⟨gb291,6,none⟩ = some (.int .i64 a1_6) ∧ w31.cell? ⟨gb291,7,none⟩ = some (.int .i64 a1_7) := hS_
      obtain ⟨Ao33,co33,eo33⟩ := Kd.R_slice HO303.out
      (first|subst eo33|(injection eo33 with f1_ f2_ f3_;have f4_ := f1_.symm;have f5_ := f3_.symm;clear f1_ f2_ f3_;subst f4_;subst f5_))
      refine norm_ (a' := ?_) ?_ ?_
      rotate_left
      ·simp only [putAll,Act.put,List.setIfInBounds_toArray,List.set_cons_zero,List.set_cons_succ]
       rfl
      refine one_ (i := 6) (N := some 18) #[true,true,true,true,true,true,true,false,false] rfl rfl (one_of HT_.out (by kernel_rfl)) (by decide) (fun K hK => ?_)
      refine Kd.R_append_rows_step k42 (w0 := w) w.heap.size (by rfl) (.tmp 15) (.tmp 17) 29 42 (.agg #[(.int .i64 0),(.int .i64 0),(.int .i64 0),(.int .i64 0),(.int .i64 0),(.int .u64 0),(.int .i64 0),(.int .i64 0)]) 64 rfl Tryd.underlying29 info42 rfl (by decide) (by omega) v299 y298 y301 _ _ _ (fun k_ => some k_ ≠ (.slice Ao33 y301.length co33 : Value).ownBlock ∧ k_ ≠ gb291) (fun _ => False) rfl rfl ?aO ?aR (fun _ _ h => h) (fun _ h => h.elim) ?aF ?aB ?aS ?aL ?_
      (case aR => repeat (first|exact (Kd.R_reads' HO303.out).2.2|(with_reducible refine Kd.C_alloc ?_ _)|(with_reducible refine Kd.C_drewN ?_ _)|(with_reducible refine Kd.C_drew ?_)))
      (case aB => exact (by repeat (first|(with_reducible first|exact HB.out|apply below_alloc|apply pw_below_drewN|apply below_drew1|refine below_set ?_ GE290.out|refine below_set ?_ GE291.out|refine below_set ?_ GE294.out)|exact HB.out)))
      (case aF => exact (fun k_ hk => ⟨Kd.fresh' (Kd.R_lt (by (with_reducible repeat (first|apply Kd.R_alloc|apply Kd.R_drewN|apply Kd.R_drew));exact HO303.out)) k_ hk,Kd.freshB (g := gb291) (o := .cells #[.int .i64 a1_0,.int .i64 a1_1,.int .i64 a1_2,.int .i64 a1_3,.int .i64 a1_4,.int .u64 a1_5,.int .i64 a1_6,.int .i64 a1_7] 42 (0,0)) (by (with_reducible repeat (first|refine blk_drewN ?_ _|refine blk_drew ?_|refine blk_alloc ?_ _));exact BK291.out) k_ hk⟩))
      (case aO => exact (by (with_reducible repeat (first|apply Kd.R_alloc|apply Kd.R_drewN|apply Kd.R_drew));exact HO300.out))
      (case aS => exact (below_size (by repeat (first|(with_reducible first|exact HB.out|apply below_alloc|apply pw_below_drewN|apply below_drew1|refine below_set ?_ GE290.out|refine below_set ?_ GE291.out|refine below_set ?_ GE294.out)|exact HB.out))))
      (case aL => have := LMc8.out;omega)
      intro v305 w32 ho hb hg hat
      rw [← Ny304.out] at ho
      have n0_ := Aside0.mk (blk_grown (g := gb290) (o := .cells #[.int .u64 a0_0,.int .i64 a0_1,.int .i64 a0_2,.slice A0_3 l0_3.length c0_3,.slice A0_4 l0_4.length c0_4,.slice A0_5 l0_5.length c0_5] 32 (0,0)) (by (with_reducible repeat (first|refine blk_drewN ?_ _|refine blk_drew ?_|refine blk_alloc ?_ _));exact BK290.out) hg (Kd.R_ne HO300.out BK290.out (by decide)))
      have n1_ := Aside0.mk (blk_grown (g := gb291) (o := .cells #[.int .i64 a1_0,.int .i64 a1_1,.int .i64 a1_2,.int .i64 a1_3,.int .i64 a1_4,.int .u64 a1_5,.int .i64 a1_6,.int .i64 a1_7] 42 (0,0)) (by (with_reducible repeat (first|refine blk_drewN ?_ _|refine blk_drew ?_|refine blk_alloc ?_ _));exact BK291.out) hg (Kd.R_away HO300.out (fun _ hk => hk.2)))
      have n2_ := Aside0.mk (blk_grown (g := gb294) (o := .cells #[.int .u64 a0_0,.int .i64 a0_1,.int .i64 a0_2,.slice A0_3 l0_3.length c0_3,.slice A0_4 l0_4.length c0_4,.slice A0_5 l0_5.length c0_5] 32 (0,0)) (by (with_reducible repeat (first|refine blk_drewN ?_ _|refine blk_drew ?_|refine blk_alloc ?_ _));exact BK294.out) hg (Kd.R_ne HO300.out BK294.out (by decide)))
      have n3_ := Aside0.mk (Kd.R_after (ok := (fun k_ => k_ ≠ gb291)) (by (with_reducible repeat (first|apply Kd.R_alloc|apply Kd.R_drewN|apply Kd.R_drew));exact Kd.R_mono HO303.out (fun _ hk => ⟨hk.2,hk.1⟩)) hg hat)
      have n4_ := Aside0.mk (hb)
      have n5_ := Aside0.mk (ho)
      clear BK290
      clear BK291
      clear BK294
      clear HO303
      clear HB
      clear HO300
      have BK290 := n0_
      have BK291 := n1_
      have BK294 := n2_
      have HO303 := n3_
      have HB := n4_
      have HO306 := n5_
      clear n0_ n1_ n2_ n3_ n4_ n5_
      clear ho hb hg hat
      obtain ⟨Ao34,co34,eo34⟩ := Kd.R_slice HO306.out
      (first|subst eo34|(injection eo34 with f1_ f2_ f3_;have f4_ := f1_.symm;have f5_ := f3_.symm;clear f1_ f2_ f3_;subst f4_;subst f5_))
      refine hK.out _ _ ⟨(blk_cell BK290.out 0).trans rfl,(blk_cell BK290.out 1).trans rfl,(blk_cell BK290.out 2).trans rfl,(blk_cell BK290.out 3).trans rfl,(blk_cell BK290.out 4).trans rfl,(blk_cell BK290.out 5).trans rfl,(blk_cell BK291.out 0).trans rfl,(blk_cell BK291.out 1).trans rfl,(blk_cell BK291.out 2).trans rfl,(blk_cell BK291.out 3).trans rfl,(blk_cell BK291.out 4).trans rfl,(blk_cell BK291.out 5).trans rfl,(blk_cell BK291.out 6).trans rfl,(blk_cell BK291.out 7).trans rfl⟩ (fun hHeld => ?_)
      clear hK K
      refine norm_ (a' := ?_) ?_ ?_
      rotate_left
      ·show Act.put _ (some 18) _ = _
       simp only [Act.put,List.setIfInBounds_toArray,List.set_cons_zero,List.set_cons_succ,i64_w,i32_w]
       rfl
      refine pure_ (i := 7) (N := some 19) (v := ?_) (a' := ?_) #[true,true,true,true,true,true,true,true,false] rfl rfl (any_of HT_.out (by kernel_rfl)) (fun _ _ _ h => h) (Or.inl ⟨by rfl,?_⟩) ?_ ?_
      rotate_left
      ·intro w'
       go_simp
       with_reducible rfl
      rotate_left
      ·simp only [Act.put,List.setIfInBounds_toArray,List.set_cons_zero,List.set_cons_succ,i64_w,i32_w]
       rfl
      refine one_ (i := 8) (N := none) #[true,true,true,true,true,true,true,true,true] rfl rfl (one_of HT_.out (by kernel_rfl)) (by decide) (fun K hK => ?_)
      have hs35 : w32.cell? ⟨gb294,4,none⟩ = some (.slice A0_4 l0_4.length c0_4) := (blk_cell BK294.out 4).trans rfl
      have hfs35 := blk_frozen BK294.out 4
      have hns35_0 := NB290_294.out
      have hns35_1 := NB291_294.out
      have hms35_0 := NB294_290.out
      have hms35_1 := NB294_291.out
      refine skip_ (w1 := ?_) (by rfl) rfl ?_ ?_
      rotate_left
      ·go_simp
       rfl
      refine hK.out _ _ ⟨((cell_far (p := ⟨gb294,_,none⟩) NB290_294.out _).trans (hHeld.1)),((cell_far (p := ⟨gb294,_,none⟩) NB290_294.out _).trans (hHeld.2.1)),((cell_far (p := ⟨gb294,_,none⟩) NB290_294.out _).trans (hHeld.2.2.1)),((cell_far (p := ⟨gb294,_,none⟩) NB290_294.out _).trans (hHeld.2.2.2.1)),((cell_far (p := ⟨gb294,_,none⟩) NB290_294.out _).trans (hHeld.2.2.2.2.1)),((cell_far (p := ⟨gb294,_,none⟩) NB290_294.out _).trans (hHeld.2.2.2.2.2.1)),((cell_far (p := ⟨gb294,_,none⟩) NB291_294.out _).trans (hHeld.2.2.2.2.2.2.1)),((cell_far (p := ⟨gb294,_,none⟩) NB291_294.out _).trans (hHeld.2.2.2.2.2.2.2.1)),((cell_far (p := ⟨gb294,_,none⟩) NB291_294.out _).trans (hHeld.2.2.2.2.2.2.2.2.1)),((cell_far (p := ⟨gb294,_,none⟩) NB291_294.out _).trans (hHeld.2.2.2.2.2.2.2.2.2.1)),((cell_far (p := ⟨gb294,_,none⟩) NB291_294.out _).trans (hHeld.2.2.2.2.2.2.2.2.2.2.1)),((cell_far (p := ⟨gb294,_,none⟩) NB291_294.out _).trans (hHeld.2.2.2.2.2.2.2.2.2.2.2.1)),((cell_far (p := ⟨gb294,_,none⟩) NB291_294.out _).trans (hHeld.2.2.2.2.2.2.2.2.2.2.2.2.1)),((cell_far (p := ⟨gb294,_,none⟩) NB291_294.out _).trans (hHeld.2.2.2.2.2.2.2.2.2.2.2.2.2))⟩ (fun hHeld => ?_)
      clear hK K
      refine done_ (done_of HT_.out (by kernel_rfl)) ?_
      try go_wp2
      have n0_ : Aside0 (Kd.R k42 42 (w32.setCell ⟨gb294,4,none⟩ (.slice Ao34 y304.length co34)) w.heap.size (fun k_ => some k_ ≠ (.slice Ao34 y304.length co34 : Value).ownBlock ∧ k_ ≠ gb291) (.slice Ao33 y301.length co33) y301) := ⟨by (with_reducible repeat (first|apply Kd.R_alloc|apply Kd.R_drewN|apply Kd.R_drew));exact Kd.R_mono (Kd.R_far (p := ⟨gb294,4,none⟩) (Kd.R_types HO303.out BK294.out (by decide)) (fun _ hk => hk.2) (.slice Ao34 y304.length co34)) (fun _ hk => ⟨hk.1.2,hk.1.1⟩)⟩
      have n1_ : Aside0 (Kd.R k42 42 (w32.setCell ⟨gb294,4,none⟩ (.slice Ao34 y304.length co34)) w.heap.size (fun k_ => some k_ ≠ (.slice Ao33 y301.length co33 : Value).ownBlock ∧ k_ ≠ gb291) (.slice Ao34 y304.length co34) y304) := ⟨by (with_reducible repeat (first|apply Kd.R_alloc|apply Kd.R_drewN|apply Kd.R_drew));exact Kd.R_mono (Kd.R_far (p := ⟨gb294,4,none⟩) (Kd.R_types HO306.out BK294.out (by decide)) (fun _ hk => hk.2) (.slice Ao34 y304.length co34)) (fun _ hk => ⟨hk.1.1,hk.1.2⟩)⟩
      have n2_ : Aside0 ((w32.setCell ⟨gb294,4,none⟩ (.slice Ao34 y304.length co34)).heap[gb290]? = some (.cells #[.int .u64 a0_0,.int .i64 a0_1,.int .i64 a0_2,.slice A0_3 l0_3.length c0_3,.slice A0_4 l0_4.length c0_4,.slice A0_5 l0_5.length c0_5] 32 (0,0))) := ⟨by (with_reducible repeat (first|refine blk_drewN ?_ _|refine blk_drew ?_|refine blk_alloc ?_ _));refine blk_far ?_ NB290_294.out _;(with_reducible repeat (first|refine blk_drewN ?_ _|refine blk_drew ?_|refine blk_alloc ?_ _));exact BK290.out⟩
      have n3_ : Aside0 ((w32.setCell ⟨gb294,4,none⟩ (.slice Ao34 y304.length co34)).heap[gb291]? = some (.cells #[.int .i64 a1_0,.int .i64 a1_1,.int .i64 a1_2,.int .i64 a1_3,.int .i64 a1_4,.int .u64 a1_5,.int .i64 a1_6,.int .i64 a1_7] 42 (0,0))) := ⟨by (with_reducible repeat (first|refine blk_drewN ?_ _|refine blk_drew ?_|refine blk_alloc ?_ _));refine blk_far ?_ NB291_294.out _;(with_reducible repeat (first|refine blk_drewN ?_ _|refine blk_drew ?_|refine blk_alloc ?_ _));exact BK291.out⟩
      have n4_ : Aside0 ((w32.setCell ⟨gb294,4,none⟩ (.slice Ao34 y304.length co34)).heap[gb294]? = some (.cells #[.int .u64 a0_0,.int .i64 a0_1,.int .i64 a0_2,.slice A0_3 l0_3.length c0_3,.slice Ao34 y304.length co34,.slice A0_5 l0_5.length c0_5] 32 (0,0))) := ⟨by (with_reducible repeat (first|refine blk_drewN ?_ _|refine blk_drew ?_|refine blk_alloc ?_ _));refine blk_put (cs := #[.int .u64 a0_0,.int .i64 a0_1,.int .i64 a0_2,.slice A0_3 l0_3.length c0_3,.slice A0_4 l0_4.length c0_4,.slice A0_5 l0_5.length c0_5]) ?_ 4 _ rfl;(with_reducible repeat (first|refine blk_drewN ?_ _|refine blk_drew ?_|refine blk_alloc ?_ _));exact BK294.out⟩
      have n5_ : Aside0 (Below w.heap.size w (w32.setCell ⟨gb294,4,none⟩ (.slice Ao34 y304.length co34))) := ⟨by repeat (first|(with_reducible first|exact HB.out|apply below_alloc|apply pw_below_drewN|apply below_drew1|refine below_set ?_ GE290.out|refine below_set ?_ GE291.out|refine below_set ?_ GE294.out)|exact HB.out)⟩
      (try clear HO303)
      (try clear HO306)
      (try clear BK290)
      (try clear BK291)
      (try clear BK294)
      (try clear HB)
      generalize (w32.setCell ⟨gb294,4,none⟩ (.slice Ao34 y304.length co34)) = w36 at n0_ n1_ n2_ n3_ n4_ n5_ ⊢
      have HO303 := n0_
      have HO306 := n1_
      have BK290 := n2_
      have BK291 := n3_
      have BK294 := n4_
      have HB := n5_
      clear n0_ n1_ n2_ n3_ n4_ n5_
      have n0_ := Aside0.mk (Kd.R_drew HO303.out)
      have n1_ := Aside0.mk (Kd.R_drew HO306.out)
      have n2_ := Aside0.mk (blk_drew BK290.out)
      have n3_ := Aside0.mk (blk_drew BK291.out)
      have n4_ := Aside0.mk (blk_drew BK294.out)
      have n5_ := Aside0.mk (below_drew1 HB.out)
      clear HO303
      clear HO306
      clear BK290
      clear BK291
      clear BK294
      clear HB
      have HO303 := n0_
      have HO306 := n1_
      have BK290 := n2_
      have BK291 := n3_
      have BK294 := n4_
      have HB := n5_
      clear n0_ n1_ n2_ n3_ n4_ n5_
      refine start_ (n := 12) (S := fun w' => w'.cell? ⟨gb290,0,none⟩ = some (.int .u64 a0_0) ∧ w'.cell? ⟨gb290,1,none⟩ = some (.int .i64 a0_1) ∧ w'.cell? ⟨gb290,2,none⟩ = some (.int .i64 a0_2) ∧ w'.cell? ⟨gb290,3,none⟩ = some (.slice A0_3 l0_3.length c0_3) ∧ w'.cell? ⟨gb290,4,none⟩ = some (.slice A0_4 l0_4.length c0_4) ∧ w'.cell? ⟨gb290,5,none⟩ = some (.slice A0_5 l0_5.length c0_5) ∧ w'.cell? ⟨gb294,0,none⟩ = some (.int .u64 a0_0) ∧ w'.cell? ⟨gb294,1,none⟩ = some (.int .i64 a0_1) ∧ w'.cell? ⟨gb294,2,none⟩ = some (.int .i64 a0_2) ∧ w'.cell? ⟨gb294,3,none⟩ = some (.slice A0_3 l0_3.length c0_3) ∧ w'.cell? ⟨gb294,4,none⟩ = some (.slice Ao34 y304.length co34) ∧ w'.cell? ⟨gb294,5,none⟩ = some (.slice A0_5 l0_5.length c0_5) ∧ w'.cell? ⟨gb291,0,none⟩ = some (.int .i64 a1_0) ∧ w'.cell? ⟨gb291,1,none⟩ = some (.int .i64 a1_1) ∧ w'.cell? ⟨gb291,2,none⟩ = some (.int .i64 a1_2) ∧ w'.cell? ⟨gb291,3,none⟩ = some (.int .i64 a1_3) ∧ w'.cell? ⟨gb291,4,none⟩ = some (.int .i64 a1_4) ∧ w'.cell? ⟨gb291,5,none⟩ = some (.int .u64 a1_5) ∧ w'.cell? ⟨gb291,6,none⟩ = some (.int .i64 a1_6) ∧ w'.cell? ⟨gb291,7,none⟩ = some (.int .i64 a1_7)) (ds := []) #[false,false,false,false,false,false,false,false,false,false,false,false] (by kernel_rfl) rfl rfl ⟨(blk_cell BK290.out 0).trans rfl,(blk_cell BK290.out 1).trans rfl,(blk_cell BK290.out 2).trans rfl,(blk_cell BK290.out 3).trans rfl,(blk_cell BK290.out 4).trans rfl,(blk_cell BK290.out 5).trans rfl,(blk_cell BK294.out 0).trans rfl,(blk_cell BK294.out 1).trans rfl,(blk_cell BK294.out 2).trans rfl,(blk_cell BK294.out 3).trans rfl,(blk_cell BK294.out 4).trans rfl,(blk_cell BK294.out 5).trans rfl,(blk_cell BK291.out 0).trans rfl,(blk_cell BK291.out 1).trans rfl,(blk_cell BK291.out 2).trans rfl,(blk_cell BK291.out 3).trans rfl,(blk_cell BK291.out 4).trans rfl,(blk_cell BK291.out 5).trans rfl,(blk_cell BK291.out 6).trans rfl,(blk_cell BK291.out 7).trans rfl⟩ (fun hHeld => ?_);refine with_tabW privitylaw12_ParamsScenarioWithExtraDeviation.tab7 privitylaw12_ParamsScenarioWithExtraDeviation.bits7 (fun HT_ HW_ => ?_)
      generalize w36.drew = w37 at HO303 HO306 BK290 BK291 BK294 HB hHeld ⊢
      refine take_ (i := 0) (N := some 20) (v := ?_) (a' := ?_) #[true,false,false,false,false,false,false,false,false,false,false,false] rfl rfl (take_ofW HT_.out HW_.out (by kernel_rfl)) (fun _ _ _ h => h) (Or.inl ⟨by rfl,?_⟩) hHeld ?_ ?_
      rotate_left
      ·rintro w' ⟨s0,s1,s2,s3,s4,s5,s6,s7,s8,s9,s10,s11,s12,s13,s14,s15,s16,s17,s18,s19⟩
       go_simp
       with_reducible rfl
      rotate_left
      ·simp only [Act.put,List.setIfInBounds_toArray,List.set_cons_zero,List.set_cons_succ,i64_w,i32_w]
       rfl
      refine one_ (i := 1) (N := some 21) #[true,true,false,false,false,false,false,false,false,false,false,false] rfl rfl (one_of HT_.out (by kernel_rfl)) (by decide) (fun K hK => ?_)
      refine goes_ Tryd.func14 (by kernel_rfl) rfl #[.agg #[.int .u64 a0_0,.int .i64 a0_1,.int .i64 a0_2,.slice A0_3 l0_3.length c0_3,.slice A0_4 l0_4.length c0_4,.slice A0_5 l0_5.length c0_5]] (by rfl) rfl rfl (by (try simp only [List.map_toArray,List.map_cons,List.map_nil]);first|done|rfl|(simp only [List.length_drop,List.length_take];rfl)) ?_
      with_reducible refine (params_ValidScenario.calls a0_0 a0_1 a0_2 _ _ l0_3 _ _ l0_4 _ _ l0_5 true _ ?side1 ?side2 ?side3 ?side4 ?side5 ?side6 ?sidehx A9.out).mono ?_
      (case sidehx => repeat (first|exact HX_.out|exact (Hx_below HX_.out HB.out)|(with_reducible refine Hx_alloc ?_ _)|(with_reducible refine Hx_drewN ?_ _)|(with_reducible refine Hx_drew ?_)))
      (case side1 => repeat (first|exact (Kd.C_below HR0_3.out HB.out)|(with_reducible refine Kd.C_alloc ?_ _)|(with_reducible refine Kd.C_drewN ?_ _)|(with_reducible refine Kd.C_drew ?_)))
      (case side2 => exact HC0_3.out)
      (case side3 => repeat (first|exact (Kd.C_below HR0_4.out HB.out)|(with_reducible refine Kd.C_alloc ?_ _)|(with_reducible refine Kd.C_drewN ?_ _)|(with_reducible refine Kd.C_drew ?_)))
      (case side4 => exact HC0_4.out)
      (case side5 => repeat (first|exact (Kd.C_below HR0_5.out HB.out)|(with_reducible refine Kd.C_alloc ?_ _)|(with_reducible refine Kd.C_drewN ?_ _)|(with_reducible refine Kd.C_drew ?_)))
      (case side6 => exact HC0_5.out)
      rintro e w38 ⟨rfl,hb⟩
      refine ⟨_,rfl,?_⟩
      have n0_ := Aside0.mk (Kd.R_below (by (with_reducible repeat (first|apply Kd.R_alloc|apply Kd.R_drewN|apply Kd.R_drew));exact HO303.out) hb)
      have n1_ := Aside0.mk (Kd.R_below (by (with_reducible repeat (first|apply Kd.R_alloc|apply Kd.R_drewN|apply Kd.R_drew));exact HO306.out) hb)
      have n2_ := Aside0.mk (blk_below (g := gb290) (o := .cells #[.int .u64 a0_0,.int .i64 a0_1,.int .i64 a0_2,.slice A0_3 l0_3.length c0_3,.slice A0_4 l0_4.length c0_4,.slice A0_5 l0_5.length c0_5] 32 (0,0)) (by (with_reducible repeat (first|refine blk_drewN ?_ _|refine blk_drew ?_|refine blk_alloc ?_ _));exact BK290.out) hb)
      have n3_ := Aside0.mk (blk_below (g := gb291) (o := .cells #[.int .i64 a1_0,.int .i64 a1_1,.int .i64 a1_2,.int .i64 a1_3,.int .i64 a1_4,.int .u64 a1_5,.int .i64 a1_6,.int .i64 a1_7] 42 (0,0)) (by (with_reducible repeat (first|refine blk_drewN ?_ _|refine blk_drew ?_|refine blk_alloc ?_ _));exact BK291.out) hb)
      have n4_ := Aside0.mk (blk_below (g := gb294) (o := .cells #[.int .u64 a0_0,.int .i64 a0_1,.int .i64 a0_2,.slice A0_3 l0_3.length c0_3,.slice Ao34 y304.length co34,.slice A0_5 l0_5.length c0_5] 32 (0,0)) (by (with_reducible repeat (first|refine blk_drewN ?_ _|refine blk_drew ?_|refine blk_alloc ?_ _));exact BK294.out) hb)
      have n5_ := Aside0.mk (below_step (by repeat (first|(with_reducible first|exact HB.out|apply below_alloc|apply pw_below_drewN|apply below_drew1|refine below_set ?_ GE290.out|refine below_set ?_ GE291.out|refine below_set ?_ GE294.out)|exact HB.out)) hb)
      clear HO303
      clear HO306
      clear BK290
      clear BK291
      clear BK294
      clear HB
      have HO303 := n0_
      have HO306 := n1_
      have BK290 := n2_
      have BK291 := n3_
      have BK294 := n4_
      have HB := n5_
      clear n0_ n1_ n2_ n3_ n4_ n5_
      (try clear hb)
      (try clear hb2)
      (try clear hk)
      (try clear hi)
      refine hK.out _ _ ⟨(blk_cell BK290.out 0).trans rfl,(blk_cell BK290.out 1).trans rfl,(blk_cell BK290.out 2).trans rfl,(blk_cell BK290.out 3).trans rfl,(blk_cell BK290.out 4).trans rfl,(blk_cell BK290.out 5).trans rfl,(blk_cell BK294.out 0).trans rfl,(blk_cell BK294.out 1).trans rfl,(blk_cell BK294.out 2).trans rfl,(blk_cell BK294.out 3).trans rfl,(blk_cell BK294.out 4).trans rfl,(blk_cell BK294.out 5).trans rfl,(blk_cell BK291.out 0).trans rfl,(blk_cell BK291.out 1).trans rfl,(blk_cell BK291.out 2).trans rfl,(blk_cell BK291.out 3).trans rfl,(blk_cell BK291.out 4).trans rfl,(blk_cell BK291.out 5).trans rfl,(blk_cell BK291.out 6).trans rfl,(blk_cell BK291.out 7).trans rfl⟩ (fun hHeld => ?_)
      clear hK K
      refine norm_ (a' := ?_) ?_ ?_
      rotate_left
      ·show Act.put _ (some 21) _ = _
       simp only [Act.put,List.setIfInBounds_toArray,List.set_cons_zero,List.set_cons_succ,i64_w,i32_w]
       rfl
      refine pure_ (i := 2) (N := some 22) (v := ?_) (a' := ?_) #[true,true,true,false,false,false,false,false,false,false,false,false] rfl rfl (any_of HT_.out (by kernel_rfl)) (fun _ _ _ h => h) (Or.inl ⟨by rfl,?_⟩) ?_ ?_
      rotate_left
      ·intro w'
       go_simp
       with_reducible rfl
      rotate_left
      ·simp only [Act.put,List.setIfInBounds_toArray,List.set_cons_zero,List.set_cons_succ,i64_w,i32_w]
       rfl
      refine pure_ (i := 5) (N := some 25) (v := ?_) (a' := ?_) #[true,true,true,false,false,true,false,false,false,false,false,false] rfl rfl (any_of HT_.out (by kernel_rfl)) (fun _ _ _ h => h) (Or.inl ⟨by rfl,?_⟩) ?_ ?_
      rotate_left
      ·intro w'
       go_simp
       with_reducible rfl
      rotate_left
      ·simp only [Act.put,List.setIfInBounds_toArray,List.set_cons_zero,List.set_cons_succ,i64_w,i32_w]
       rfl
      refine take_ (i := 3) (N := some 23) (v := ?_) (a' := ?_) #[true,true,true,true,false,true,false,false,false,false,false,false] rfl rfl (take_ofW HT_.out HW_.out (by kernel_rfl)) (fun _ _ _ h => h) (Or.inl ⟨by rfl,?_⟩) hHeld ?_ ?_
      rotate_left
      ·rintro w' ⟨s0,s1,s2,s3,s4,s5,s6,s7,s8,s9,s10,s11,s12,s13,s14,s15,s16,s17,s18,s19⟩
       go_simp
       with_reducible rfl
      rotate_left
      ·simp only [Act.put,List.setIfInBounds_toArray,List.set_cons_zero,List.set_cons_succ,i64_w,i32_w]
       rfl
      refine take_ (i := 6) (N := some 26) (v := ?_) (a' := ?_) #[true,true,true,true,false,true,true,false,false,false,false,false] rfl rfl (take_ofW HT_.out HW_.out (by kernel_rfl)) (fun _ _ _ h => h) (Or.inl ⟨by rfl,?_⟩) hHeld ?_ ?_
      rotate_left
      ·rintro w' ⟨s0,s1,s2,s3,s4,s5,s6,s7,s8,s9,s10,s11,s12,s13,s14,s15,s16,s17,s18,s19⟩
       go_simp
       with_reducible rfl
      rotate_left
      ·simp only [Act.put,List.setIfInBounds_toArray,List.set_cons_zero,List.set_cons_succ,i64_w,i32_w]
       rfl
      refine take_ (i := 7) (N := some 27) (v := ?_) (a' := ?_) #[true,true,true,true,false,true,true,true,false,false,false,false] rfl rfl (take_ofW HT_.out HW_.out (by kernel_rfl)) (fun _ _ _ h => h) (Or.inl ⟨by rfl,?_⟩) hHeld ?_ ?_
      rotate_left
      ·rintro w' ⟨s0,s1,s2,s3,s4,s5,s6,s7,s8,s9,s10,s11,s12,s13,s14,s15,s16,s17,s18,s19⟩
       go_simp
       with_reducible rfl
      rotate_left
      ·simp only [Act.put,List.setIfInBounds_toArray,List.set_cons_zero,List.set_cons_succ,i64_w,i32_w]
       rfl
      refine one_ (i := 4) (N := some 24) #[true,true,true,true,true,true,true,true,false,false,false,false] rfl rfl (one_of HT_.out (by kernel_rfl)) (by decide) (fun K hK => ?_)
      refine goes_ Tryd.func14 (by kernel_rfl) rfl #[.agg #[.int .u64 a0_0,.int .i64 a0_1,.int .i64 a0_2,.slice A0_3 l0_3.length c0_3,.slice Ao34 y304.length co34,.slice A0_5 l0_5.length c0_5]] (by rfl) rfl rfl (by (try simp only [List.map_toArray,List.map_cons,List.map_nil]);first|done|rfl|(simp only [List.length_drop,List.length_take];rfl)) ?_
      with_reducible refine (params_ValidScenario.calls a0_0 a0_1 a0_2 _ _ l0_3 _ _ y304 _ _ l0_5 t308 _ ?side1 ?side2 ?side3 ?side4 ?side5 ?side6 ?sidehx A11.out).mono ?_
      (case sidehx => repeat (first|exact HX_.out|exact (Hx_below HX_.out HB.out)|(with_reducible refine Hx_alloc ?_ _)|(with_reducible refine Hx_drewN ?_ _)|(with_reducible refine Hx_drew ?_)))
      (case side1 => repeat (first|exact (Kd.C_below HR0_3.out HB.out)|(with_reducible refine Kd.C_alloc ?_ _)|(with_reducible refine Kd.C_drewN ?_ _)|(with_reducible refine Kd.C_drew ?_)))
      (case side2 => exact HC0_3.out)
      (case side3 => repeat (first|exact (Kd.R_reads' HO306.out).2.2|(with_reducible refine Kd.C_alloc ?_ _)|(with_reducible refine Kd.C_drewN ?_ _)|(with_reducible refine Kd.C_drew ?_)))
      (case side4 => exact (Kd.R_reads' HO306.out).2.1)
      (case side5 => repeat (first|exact (Kd.C_below HR0_5.out HB.out)|(with_reducible refine Kd.C_alloc ?_ _)|(with_reducible refine Kd.C_drewN ?_ _)|(with_reducible refine Kd.C_drew ?_)))
      (case side6 => exact HC0_5.out)
      rintro e w39 ⟨rfl,hb⟩
      refine ⟨_,rfl,?_⟩
      have n0_ := Aside0.mk (Kd.R_below (by (with_reducible repeat (first|apply Kd.R_alloc|apply Kd.R_drewN|apply Kd.R_drew));exact HO303.out) hb)
      have n1_ := Aside0.mk (Kd.R_below (by (with_reducible repeat (first|apply Kd.R_alloc|apply Kd.R_drewN|apply Kd.R_drew));exact HO306.out) hb)
      have n2_ := Aside0.mk (blk_below (g := gb290) (o := .cells #[.int .u64 a0_0,.int .i64 a0_1,.int .i64 a0_2,.slice A0_3 l0_3.length c0_3,.slice A0_4 l0_4.length c0_4,.slice A0_5 l0_5.length c0_5] 32 (0,0)) (by (with_reducible repeat (first|refine blk_drewN ?_ _|refine blk_drew ?_|refine blk_alloc ?_ _));exact BK290.out) hb)
      have n3_ := Aside0.mk (blk_below (g := gb291) (o := .cells #[.int .i64 a1_0,.int .i64 a1_1,.int .i64 a1_2,.int .i64 a1_3,.int .i64 a1_4,.int .u64 a1_5,.int .i64 a1_6,.int .i64 a1_7] 42 (0,0)) (by (with_reducible repeat (first|refine blk_drewN ?_ _|refine blk_drew ?_|refine blk_alloc ?_ _));exact BK291.out) hb)
      have n4_ := Aside0.mk (blk_below (g := gb294) (o := .cells #[.int .u64 a0_0,.int .i64 a0_1,.int .i64 a0_2,.slice A0_3 l0_3.length c0_3,.slice Ao34 y304.length co34,.slice A0_5 l0_5.length c0_5] 32 (0,0)) (by (with_reducible repeat (first|refine blk_drewN ?_ _|refine blk_drew ?_|refine blk_alloc ?_ _));exact BK294.out) hb)
      have n5_ := Aside0.mk (below_step (by repeat (first|(with_reducible first|exact HB.out|apply below_alloc|apply pw_below_drewN|apply below_drew1|refine below_set ?_ GE290.out|refine below_set ?_ GE291.out|refine below_set ?_ GE294.out)|exact HB.out)) hb)
      clear HO303
      clear HO306
      clear BK290
      clear BK291
      clear BK294
      clear HB
      have HO303 := n0_
      have HO306 := n1_
      have BK290 := n2_
      have BK291 := n3_
      have BK294 := n4_
      have HB := n5_
      clear n0_ n1_ n2_ n3_ n4_ n5_
      (try clear hb)
      (try clear hb2)
      (try clear hk)
      (try clear hi)
      refine hK.out _ _ ⟨(blk_cell BK290.out 0).trans rfl,(blk_cell BK290.out 1).trans rfl,(blk_cell BK290.out 2).trans rfl,(blk_cell BK290.out 3).trans rfl,(blk_cell BK290.out 4).trans rfl,(blk_cell BK290.out 5).trans rfl,(blk_cell BK294.out 0).trans rfl,(blk_cell BK294.out 1).trans rfl,(blk_cell BK294.out 2).trans rfl,(blk_cell BK294.out 3).trans rfl,(blk_cell BK294.out 4).trans rfl,(blk_cell BK294.out 5).trans rfl,(blk_cell BK291.out 0).trans rfl,(blk_cell BK291.out 1).trans rfl,(blk_cell BK291.out 2).trans rfl,(blk_cell BK291.out 3).trans rfl,(blk_cell BK291.out 4).trans rfl,(blk_cell BK291.out 5).trans rfl,(blk_cell BK291.out 6).trans rfl,(blk_cell BK291.out 7).trans rfl⟩ (fun hHeld => ?_)
      clear hK K
      refine norm_ (a' := ?_) ?_ ?_
      rotate_left
      ·show Act.put _ (some 24) _ = _
       simp only [Act.put,List.setIfInBounds_toArray,List.set_cons_zero,List.set_cons_succ,i64_w,i32_w]
       rfl
      refine one_ (i := 8) (N := some 28) #[true,true,true,true,true,true,true,true,true,false,false,false] rfl rfl (one_of HT_.out (by kernel_rfl)) (by decide) (fun K hK => ?_)
      refine goes_ Tryd.func25 (by kernel_rfl) rfl #[.agg #[.int .u64 a0_0,.int .i64 a0_1,.int .i64 a0_2],.agg #[.int .i64 a1_0,.int .i64 a1_1,.int .i64 a1_2,.int .i64 a1_3,.int .i64 a1_4,.int .u64 a1_5,.int .i64 a1_6,.int .i64 a1_7]] (by rfl) rfl rfl (by (try simp only [List.map_toArray,List.map_cons,List.map_nil]);first|done|rfl|(simp only [List.length_drop,List.length_take];rfl)) ?_
      with_reducible refine (privityref12_Deviation.calls a0_0 a0_1 a0_2 a1_0 a1_1 a1_2 a1_3 a1_4 a1_5 a1_6 a1_7 t309 _ A12.out).mono ?_
      rintro e w40 ⟨rfl,hb⟩
      refine ⟨_,rfl,?_⟩
      have n0_ := Aside0.mk (Kd.R_below (by (with_reducible repeat (first|apply Kd.R_alloc|apply Kd.R_drewN|apply Kd.R_drew));exact HO303.out) hb)
      have n1_ := Aside0.mk (Kd.R_below (by (with_reducible repeat (first|apply Kd.R_alloc|apply Kd.R_drewN|apply Kd.R_drew));exact HO306.out) hb)
      have n2_ := Aside0.mk (blk_below (g := gb290) (o := .cells #[.int .u64 a0_0,.int .i64 a0_1,.int .i64 a0_2,.slice A0_3 l0_3.length c0_3,.slice A0_4 l0_4.length c0_4,.slice A0_5 l0_5.length c0_5] 32 (0,0)) (by (with_reducible repeat (first|refine blk_drewN ?_ _|refine blk_drew ?_|refine blk_alloc ?_ _));exact BK290.out) hb)
      have n3_ := Aside0.mk (blk_below (g := gb291) (o := .cells #[.int .i64 a1_0,.int .i64 a1_1,.int .i64 a1_2,.int .i64 a1_3,.int .i64 a1_4,.int .u64 a1_5,.int .i64 a1_6,.int .i64 a1_7] 42 (0,0)) (by (with_reducible repeat (first|refine blk_drewN ?_ _|refine blk_drew ?_|refine blk_alloc ?_ _));exact BK291.out) hb)
      have n4_ := Aside0.mk (blk_below (g := gb294) (o := .cells #[.int .u64 a0_0,.int .i64 a0_1,.int .i64 a0_2,.slice A0_3 l0_3.length c0_3,.slice Ao34 y304.length co34,.slice A0_5 l0_5.length c0_5] 32 (0,0)) (by (with_reducible repeat (first|refine blk_drewN ?_ _|refine blk_drew ?_|refine blk_alloc ?_ _));exact BK294.out) hb)
      have n5_ := Aside0.mk (below_step (by repeat (first|(with_reducible first|exact HB.out|apply below_alloc|apply pw_below_drewN|apply below_drew1|refine below_set ?_ GE290.out|refine below_set ?_ GE291.out|refine below_set ?_ GE294.out)|exact HB.out)) hb)
      clear HO303
      clear HO306
      clear BK290
      clear BK291
      clear BK294
      clear HB
      have HO303 := n0_
      have HO306 := n1_
      have BK290 := n2_
      have BK291 := n3_
      have BK294 := n4_
      have HB := n5_
      clear n0_ n1_ n2_ n3_ n4_ n5_
      (try clear hb)
      (try clear hb2)
      (try clear hk)
      (try clear hi)
      refine hK.out _ _ ⟨(blk_cell BK290.out 0).trans rfl,(blk_cell BK290.out 1).trans rfl,(blk_cell BK290.out 2).trans rfl,(blk_cell BK290.out 3).trans rfl,(blk_cell BK290.out 4).trans rfl,(blk_cell BK290.out 5).trans rfl,(blk_cell BK294.out 0).trans rfl,(blk_cell BK294.out 1).trans rfl,(blk_cell BK294.out 2).trans rfl,(blk_cell BK294.out 3).trans rfl,(blk_cell BK294.out 4).trans rfl,(blk_cell BK294.out 5).trans rfl,(blk_cell BK291.out 0).trans rfl,(blk_cell BK291.out 1).trans rfl,(blk_cell BK291.out 2).trans rfl,(blk_cell BK291.out 3).trans rfl,(blk_cell BK291.out 4).trans rfl,(blk_cell BK291.out 5).trans rfl,(blk_cell BK291.out 6).trans rfl,(blk_cell BK291.out 7).trans rfl⟩ (fun hHeld => ?_)
      clear hK K
      refine norm_ (a' := ?_) ?_ ?_
      rotate_left
      ·show Act.put _ (some 28) _ = _
       simp only [Act.put,List.setIfInBounds_toArray,List.set_cons_zero,List.set_cons_succ,i64_w,i32_w]
       rfl
      refine pure_ (i := 9) (N := some 29) (v := ?_) (a' := ?_) #[true,true,true,true,true,true,true,true,true,true,false,false] rfl rfl (any_of HT_.out (by kernel_rfl)) (fun _ _ _ h => h) (Or.inl ⟨by rfl,?_⟩) ?_ ?_
      rotate_left
      ·intro w'
       go_simp
       with_reducible rfl
      rotate_left
      ·simp only [Act.put,List.setIfInBounds_toArray,List.set_cons_zero,List.set_cons_succ,i64_w,i32_w]
       rfl
      refine pure_ (i := 10) (N := some 30) (v := ?_) (a' := ?_) #[true,true,true,true,true,true,true,true,true,true,true,false] rfl rfl (any_of HT_.out (by kernel_rfl)) (fun _ _ _ h => h) (Or.inl ⟨by rfl,?_⟩) ?_ ?_
      rotate_left
      ·intro w'
       go_simp
       with_reducible rfl
      rotate_left
      ·simp only [Act.put,List.setIfInBounds_toArray,List.set_cons_zero,List.set_cons_succ,i64_w,i32_w]
       rfl
      refine pure_ (i := 11) (N := some 4) (v := ?_) (a' := ?_) #[true,true,true,true,true,true,true,true,true,true,true,true] rfl rfl (any_of HT_.out (by kernel_rfl)) (fun _ _ _ h => h) (Or.inl ⟨by rfl,?_⟩) ?_ ?_
      rotate_left
      ·intro w'
       go_simp
       with_reducible rfl
      rotate_left
      ·simp only [Act.put,List.setIfInBounds_toArray,List.set_cons_zero,List.set_cons_succ,i64_w,i32_w]
       rfl
      refine done_ (done_of HT_.out (by kernel_rfl)) ?_
      try go_wp2
      go_ret
      exact ⟨by first|rfl|(simp [errW_none,errW_some] <;> rfl)|(simp [*,errW_none,errW_some] <;> rfl),by repeat (first|(with_reducible first|exact HB.out|apply below_alloc|apply pw_below_drewN|apply below_drew1|refine below_set ?_ GE290.out|refine below_set ?_ GE291.out|refine below_set ?_ GE294.out)|exact HB.out)⟩
     ·replace c10 := Bool.eq_false_iff.mpr c10
      subst c10
      have H1 : (some false) = some r := by rw [if_neg (show ¬ (false = true) by decide)] at H;exact H
      clear H
      have H := H1
      clear H1
      exact absurd (Option.some.inj H) (by rw [HRT_.out];simp)
    ·rw [if_neg c8] at H
     exact absurd H (by simp)
   ·rw [if_neg c7] at H
    exact absurd H (by simp)
  ·replace c6 := Bool.eq_false_iff.mpr c6
   subst c6
   have H1 : (some true) = some r := by rw [if_neg (show ¬ (false = true) by decide)] at H;exact H
   clear H
   have H := H1
   clear H1
   obtain rfl := Option.some.inj H
   go_enter Tryd.func7,Tryd.ntmps7
   go_wp2_with (first|((with_reducible refine gate_dst (N := 2) rfl ?_);refine box_event ?hg (N := 2) ?hd (cs := #[.int .u64 a0_0,.int .i64 a0_1,.int .i64 a0_2,.slice A0_3 l0_3.length c0_3,.slice A0_4 l0_4.length c0_4,.slice A0_5 l0_5.length c0_5]) (t := 32) ?hr ?_;(case hd => rfl);(case hg => rfl);(case hr => first|(go_simp;done)|(go_simp;rfl));intro gb290 hg w67 hbox hb;have n0_ := Aside0.mk (below_step (by repeat (first|(with_reducible first|exact HB.out|apply below_alloc|apply pw_below_drewN|apply below_drew1)|exact HB.out)) hb);have n1_ := Aside0.mk (hbox);have n2_ := Aside0.mk ((by rw [hg];exact (below_size (by repeat (first|(with_reducible first|exact HB.out|apply below_alloc|apply pw_below_drewN|apply below_drew1)|exact HB.out))) : w.heap.size ≤ gb290));have n3_ := Aside0.mk ((by rw [hg];exact (below_size (by repeat (first|(with_reducible first|exact HB.out|apply below_alloc|apply pw_below_drewN|apply below_drew1)|exact HB.out))) : w.heap.size ≤ gb290));clear HB;have HB := n0_;have BK290 := n1_;have GW290 := n2_;have GE290 := n3_;clear n0_ n1_ n2_ n3_;clear hb hbox hg)|((with_reducible refine gate_dst (N := 3) rfl ?_);refine box_event ?hg (N := 3) ?hd (cs := #[.int .i64 a1_0,.int .i64 a1_1,.int .i64 a1_2,.int .i64 a1_3,.int .i64 a1_4,.int .u64 a1_5,.int .i64 a1_6,.int .i64 a1_7]) (t := 42) ?hr ?_;(case hd => rfl);(case hg => rfl);(case hr => first|(go_simp;done)|(go_simp;rfl));intro gb291 hg w68 hbox hb;have n0_ := Aside0.mk (blk_below (g := gb290) (o := .cells #[.int .u64 a0_0,.int .i64 a0_1,.int .i64 a0_2,.slice A0_3 l0_3.length c0_3,.slice A0_4 l0_4.length c0_4,.slice A0_5 l0_5.length c0_5] 32 (0,0)) (by (with_reducible repeat (first|refine blk_drewN ?_ _|refine blk_drew ?_|refine blk_alloc ?_ _));exact BK290.out) hb);have n1_ := Aside0.mk (below_step (by repeat (first|(with_reducible first|exact HB.out|apply below_alloc|apply pw_below_drewN|apply below_drew1|refine below_set ?_ GE290.out)|exact HB.out)) hb);have n2_ := Aside0.mk (hbox);have n3_ := Aside0.mk ((by rw [hg];exact (below_size (by repeat (first|(with_reducible first|exact HB.out|apply below_alloc|apply pw_below_drewN|apply below_drew1|refine below_set ?_ GE290.out)|exact HB.out))) : w.heap.size ≤ gb291));have n4_ := Aside0.mk ((by rw [hg];exact (below_size (by repeat (first|(with_reducible first|exact HB.out|apply below_alloc|apply pw_below_drewN|apply below_drew1|refine below_set ?_ GE290.out)|exact HB.out))) : w.heap.size ≤ gb291));have n5_ := Aside0.mk ((by rw [hg];exact Nat.ne_of_lt (blk_lt (g := gb290) (o := .cells #[.int .u64 a0_0,.int .i64 a0_1,.int .i64 a0_2,.slice A0_3 l0_3.length c0_3,.slice A0_4 l0_4.length c0_4,.slice A0_5 l0_5.length c0_5] 32 (0,0)) (by (with_reducible repeat (first|refine blk_drewN ?_ _|refine blk_drew ?_|refine blk_alloc ?_ _));exact BK290.out)) : gb290 ≠ gb291));have n6_ := Aside0.mk ((by rw [hg];exact Nat.ne_of_gt (blk_lt (g := gb290) (o := .cells #[.int .u64 a0_0,.int .i64 a0_1,.int .i64 a0_2,.slice A0_3 l0_3.length c0_3,.slice A0_4 l0_4.length c0_4,.slice A0_5 l0_5.length c0_5] 32 (0,0)) (by (with_reducible repeat (first|refine blk_drewN ?_ _|refine blk_drew ?_|refine blk_alloc ?_ _));exact BK290.out)) : gb291 ≠ gb290));clear BK290;clear HB;have BK290 := n0_;have HB := n1_;have BK291 := n2_;have GW291 := n3_;have GE291 := n4_;have NB290_291 := n5_;have NB291_290 := n6_;clear n0_ n1_ n2_ n3_ n4_ n5_ n6_;clear hb hbox hg)|((with_reducible refine gate_callee (f := 9) rfl ?_);refine goesL_ (some 6) rfl rfl Tryd.func9 (by kernel_rfl) rfl #[] rfl (by (try simp only [List.map_toArray,List.map_cons,List.map_nil]);first|done|rfl|(simp only [List.length_drop,List.length_take];rfl)) ?_;(with_reducible refine (privitylaw12_awake.calls  true _ ?sidehx A3.out).mono ?_);(case sidehx => repeat (first|exact HX_.out|exact (Hx_below HX_.out HB.out)|(with_reducible refine Hx_alloc ?_ _)|(with_reducible refine Hx_drewN ?_ _)|(with_reducible refine Hx_drew ?_)));rintro e w69 ⟨rfl,hb⟩;refine ⟨_,rfl,?_⟩;have n0_ := Aside0.mk (blk_below (g := gb290) (o := .cells #[.int .u64 a0_0,.int .i64 a0_1,.int .i64 a0_2,.slice A0_3 l0_3.length c0_3,.slice A0_4 l0_4.length c0_4,.slice A0_5 l0_5.length c0_5] 32 (0,0)) (by (with_reducible repeat (first|refine blk_drewN ?_ _|refine blk_drew ?_|refine blk_alloc ?_ _));exact BK290.out) hb);have n1_ := Aside0.mk (blk_below (g := gb291) (o := .cells #[.int .i64 a1_0,.int .i64 a1_1,.int .i64 a1_2,.int .i64 a1_3,.int .i64 a1_4,.int .u64 a1_5,.int .i64 a1_6,.int .i64 a1_7] 42 (0,0)) (by (with_reducible repeat (first|refine blk_drewN ?_ _|refine blk_drew ?_|refine blk_alloc ?_ _));exact BK291.out) hb);have n2_ := Aside0.mk (below_step (by repeat (first|(with_reducible first|exact HB.out|apply below_alloc|apply pw_below_drewN|apply below_drew1|refine below_set ?_ GE290.out|refine below_set ?_ GE291.out)|exact HB.out)) hb);clear BK290;clear BK291;clear HB;have BK290 := n0_;have BK291 := n1_;have HB := n2_;clear n0_ n1_ n2_;(try clear hb);(try clear hb2);(try clear hk);(try clear hi);have hnb70 := NB290_291.out;have hnc70 := NB291_290.out;have hcz71_0 : w69.cell? ⟨gb290,0,none⟩ = some (.int .u64 a0_0) := (blk_cell BK290.out 0).trans rfl;have hcz71_1 : w69.cell? ⟨gb290,1,none⟩ = some (.int .i64 a0_1) := (blk_cell BK290.out 1).trans rfl;have hcz71_2 : w69.cell? ⟨gb290,2,none⟩ = some (.int .i64 a0_2) := (blk_cell BK290.out 2).trans rfl;have hcz71_3 : w69.cell? ⟨gb290,3,none⟩ = some (.slice A0_3 l0_3.length c0_3) := (blk_cell BK290.out 3).trans rfl;have hcz71_4 : w69.cell? ⟨gb290,4,none⟩ = some (.slice A0_4 l0_4.length c0_4) := (blk_cell BK290.out 4).trans rfl;have hcz71_5 : w69.cell? ⟨gb290,5,none⟩ = some (.slice A0_5 l0_5.length c0_5) := (blk_cell BK290.out 5).trans rfl;have hfz71_0 := blk_frozen BK290.out 0;have hfz71_1 := blk_frozen BK290.out 1;have hfz71_2 := blk_frozen BK290.out 2;have hfz71_3 := blk_frozen BK290.out 3;have hfz71_4 := blk_frozen BK290.out 4;have hfz71_5 := blk_frozen BK290.out 5)|((with_reducible refine gate_callee (f := 24) rfl ?_);refine goesL_ (some 9) rfl rfl Tryd.func24 (by kernel_rfl) rfl #[.agg #[.int .u64 a0_0,.int .i64 a0_1,.int .i64 a0_2,.slice A0_3 l0_3.length c0_3,.slice A0_4 l0_4.length c0_4,.slice A0_5 l0_5.length c0_5],.int .i64 13,.int .i64 20,.int .i64 300] rfl (by (try simp only [List.map_toArray,List.map_cons,List.map_nil]);first|done|rfl|(simp only [List.length_drop,List.length_take];rfl)) ?_;(with_reducible refine (privityref12_Light.calls k a0_0 a0_1 a0_2 _ _ l0_3 _ _ l0_4 _ _ l0_5 13 20 300 false _ ?side1 ?side2 ?side3 ?side4 ?side5 ?side6 A5.out).mono ?_);(case side1 => repeat (first|exact (Kd.C_below HR0_3.out HB.out)|(with_reducible refine Kd.C_alloc ?_ _)|(with_reducible refine Kd.C_drewN ?_ _)|(with_reducible refine Kd.C_drew ?_)));(case side2 => exact HC0_3.out);(case side3 => repeat (first|exact (Kd.C_below HR0_4.out HB.out)|(with_reducible refine Kd.C_alloc ?_ _)|(with_reducible refine Kd.C_drewN ?_ _)|(with_reducible refine Kd.C_drew ?_)));(case side4 => exact HC0_4.out);(case side5 => repeat (first|exact (Kd.C_below HR0_5.out HB.out)|(with_reducible refine Kd.C_alloc ?_ _)|(with_reducible refine Kd.C_drewN ?_ _)|(with_reducible refine Kd.C_drew ?_)));(case side6 => exact HC0_5.out);rintro e w72 ⟨rfl,hb⟩;refine ⟨_,rfl,?_⟩;have n0_ := Aside0.mk (blk_below (g := gb290) (o := .cells #[.int .u64 a0_0,.int .i64 a0_1,.int .i64 a0_2,.slice A0_3 l0_3.length c0_3,.slice A0_4 l0_4.length c0_4,.slice A0_5 l0_5.length c0_5] 32 (0,0)) (by (with_reducible repeat (first|refine blk_drewN ?_ _|refine blk_drew ?_|refine blk_alloc ?_ _));exact BK290.out) hb);have n1_ := Aside0.mk (blk_below (g := gb291) (o := .cells #[.int .i64 a1_0,.int .i64 a1_1,.int .i64 a1_2,.int .i64 a1_3,.int .i64 a1_4,.int .u64 a1_5,.int .i64 a1_6,.int .i64 a1_7] 42 (0,0)) (by (with_reducible repeat (first|refine blk_drewN ?_ _|refine blk_drew ?_|refine blk_alloc ?_ _));exact BK291.out) hb);have n2_ := Aside0.mk (below_step (by repeat (first|(with_reducible first|exact HB.out|apply below_alloc|apply pw_below_drewN|apply below_drew1|refine below_set ?_ GE290.out|refine below_set ?_ GE291.out)|exact HB.out)) hb);clear BK290;clear BK291;clear HB;have BK290 := n0_;have BK291 := n1_;have HB := n2_;clear n0_ n1_ n2_;(try clear hb);(try clear hb2);(try clear hk);(try clear hi)))
   go_ret
   exact ⟨by first|rfl|(simp [errW_none,errW_some] <;> rfl)|(simp [*,errW_none,errW_some] <;> rfl),by repeat (first|(with_reducible first|exact HB.out|apply below_alloc|apply pw_below_drewN|apply below_drew1|refine below_set ?_ GE290.out|refine below_set ?_ GE291.out)|exact HB.out)⟩
 ·replace c4 := Bool.eq_false_iff.mpr c4
  subst c4
  have H1 : (some false) = some r := by rw [if_neg (show ¬ (false = true) by decide)] at H;exact H
  clear H
  have H := H1
  clear H1
  exact absurd (Option.some.inj H) (by rw [HRT_.out];simp)
end Go.Proofs.YtakaonojfpkhnaaDoor.Pr
end
section
/- Printed by a program of this seat (the kit's printer, with the functions that were proved by hand given to it). What stands here: the functions that the statements reach, as plain functions, and that the Go code computes them. -/
namespace Go.Proofs.YtakaonojfpkhnaaDoor.Pr
open Go.RowKit Go.Proofs.YtakaonojfpkhnaaDoorW.PrintWords Go.Proofs.YtakaonojfpkhnaaDoorW.PrintLast Go.Proofs.YtakaonojfpkhnaaDoorW.PrintMore
attribute [local go_sem] max2_int min2_int max_two min_two max_three min_three max_four min_four   -- for this text's walks alone
set_option linter.unusedVariables false
set_option linter.unusedSimpArgs false

open Go.Proofs.YtakaonojfpkhnaaDoor.Hw
/-! ### privityref04_Mul: function 41 -/
end Go.Proofs.YtakaonojfpkhnaaDoor.Pr
end
section
/-
  The reference of layer 4: what its printed functions answer.
-/
namespace Go.Proofs.YtakaonojfpkhnaaDoor.E
open Go.RowKit Go.Proofs.YtakaonojfpkhnaaDoor.Pr Go.Proofs.YtakaonojfpkhnaaDoor.Hw Go.Proofs.YtakaonojfpkhnaaDoor.Pl Go.Proofs.YtakaonojfpkhnaaDoorW.PrintWords Go.Proofs.YtakaonojfpkhnaaDoorW.PrintLast Go.Proofs.YtakaonojfpkhnaaDoorW.PrintMore
set_option linter.unusedVariables false
set_option linter.unusedSimpArgs false

/-! ### Coefficients of what the program adds up -/
/-! ### Sum -/
end Go.Proofs.YtakaonojfpkhnaaDoor.E
end
section
/-
  The reference of layer 5: what its printed functions answer.
-/
namespace Go.Proofs.YtakaonojfpkhnaaDoor.E
open Go.RowKit Go.Proofs.YtakaonojfpkhnaaDoor.Pr Go.Proofs.YtakaonojfpkhnaaDoor.Hw Go.Proofs.YtakaonojfpkhnaaDoor.Pl Go.Proofs.YtakaonojfpkhnaaDoorW.PrintWords Go.Proofs.YtakaonojfpkhnaaDoorW.PrintLast Go.Proofs.YtakaonojfpkhnaaDoorW.PrintMore
set_option linter.unusedVariables false
set_option linter.unusedSimpArgs false

/-- A loop that answers false at the first i that Q does not hold of. -/
theorem allLoop {F : Nat → Int → Option Bool} {n : Nat} {Q : Nat → Prop} [DecidablePred Q] (hend : ∀ k, F (k + 1) (n : Int) = some true) (hyes : ∀ i, i < n → Q i → ∀ r, Ev (fun k => F k ((i + 1 : Nat) : Int)) r → Ev (fun k => F k (i : Int)) r)
    (hno : ∀ i, i < n → ¬ Q i → Ev (fun k => F k (i : Int)) false) (r : Bool) (hr : r = true ↔ ∀ i, i < n → Q i) : Ev (fun k => F k ((0 : Nat) : Int)) r := by
  have main : ∀ d i, i + d = n → ∀ r : Bool, (r = true ↔ ∀ j, i ≤ j → j < n → Q j) → Ev (fun k => F k (i : Int)) r := by
    intro d
    induction d with
    | zero =>
      intro i hi r hr
      have : i = n := by omega
      subst this
      have : r = true := hr.2 (fun j h1 h2 => by omega)
      subst this
      exact Ev.step (fun k => hend k) (Ev.now _)
    | succ d ih =>
      intro i hi r hr
      by_cases h : Q i
      · refine hyes i (by omega) h r (ih (i + 1) (by omega) r ⟨fun e j h1 h2 => hr.1 e j (by omega) h2, fun e => hr.2 fun j h1 h2 => ?_⟩)
        by_cases e2 : j = i
        · rw [e2]; exact h
        · exact e j (by omega) h2
      · have : r = false := by
          cases r with
          | false => rfl
          | true => exact absurd (hr.1 rfl i (Nat.le_refl _) (by omega)) h
        subst this
        exact hno i (by omega) h
  exact main n 0 (by omega) r ⟨fun e j _ h2 => hr.1 e j h2, fun e => hr.2 fun j h => e j (Nat.zero_le _) h⟩
def belowB (p : Int) (l : List Int) : Bool := l.all fun x => decide (x < p)
theorem below_ev (p : Int) (l : List Int) (hl : l.length ≤ 1000000000) : Ev (fun k => privityref05_Below.f k p l) (belowB p l) := by
  have h := allLoop (F := fun k i => privityref05_Below.l0 k p l i) (n := l.length) (Q := fun i => l.getD i 0 < p) (fun k => ?_) (fun i hi hq r h => ?_) (fun i hi hq => ?_) (belowB p l) ?_
  · exact h
  · simp only [privityref05_Below.l0]
    rw [if_neg (by omega)]
  · refine Ev.step (fun k => ?_) h
    simp only [privityref05_Below.l0]
    rw [if_pos (by omega), if_pos (by omega), rd_nat, if_neg (by omega), wnat (by omega)]
  · refine Ev.step (fun k => ?_) (Ev.now _)
    simp only [privityref05_Below.l0]
    rw [if_pos (by omega), if_pos (by omega), rd_nat, if_pos (by omega)]
  · unfold belowB
    rw [List.all_eq_true]
    refine ⟨fun h i hi => ?_, fun h x hx => ?_⟩
    · rw [Hw.getD_in _ _ hi]; exact of_decide_eq_true (h _ (List.getElem_mem hi))
    · obtain ⟨i, hi, rfl⟩ := List.getElem_of_mem hx
      have := h i hi
      rw [Hw.getD_in _ _ hi] at this
      exact decide_eq_true this
end Go.Proofs.YtakaonojfpkhnaaDoor.E
end
section
/- Printed by a program of this seat (the kit's printer, with the functions that were proved by hand given to it). What stands here: the functions that the statements reach, as plain functions, and that the Go code computes them. -/
namespace Go.Proofs.YtakaonojfpkhnaaDoor.Pr
open Go.RowKit Go.Proofs.YtakaonojfpkhnaaDoorW.PrintWords Go.Proofs.YtakaonojfpkhnaaDoorW.PrintLast Go.Proofs.YtakaonojfpkhnaaDoorW.PrintMore
attribute [local go_sem] max2_int min2_int max_two min_two max_three min_three max_four min_four   -- for this text's walks alone
set_option linter.unusedVariables false
set_option linter.unusedSimpArgs false

open Go.Proofs.YtakaonojfpkhnaaDoor.Hw
/-! ### privityref12_In: function 21 -/
/-! ### privityref12_ExtendCoalition: function 19 -/
/-! ### privityref12_HonestParties: function 20 -/
end Go.Proofs.YtakaonojfpkhnaaDoor.Pr
end
section
/- Printed by a program of this seat (the kit's printer, with the functions that were proved by hand given to it). What stands here: the functions that the statements reach, as plain functions, and that the Go code computes them. -/
namespace Go.Proofs.YtakaonojfpkhnaaDoor.Pr
open Go.RowKit Go.Proofs.YtakaonojfpkhnaaDoorW.PrintWords Go.Proofs.YtakaonojfpkhnaaDoorW.PrintLast Go.Proofs.YtakaonojfpkhnaaDoorW.PrintMore
attribute [local go_sem] max2_int min2_int max_two min_two max_three min_three max_four min_four   -- for this text's walks alone
set_option linter.unusedVariables false
set_option linter.unusedSimpArgs false

open Go.Proofs.YtakaonojfpkhnaaDoor.Hw
/-! ### privityref12_VanishingPolynomial: function 26 -/
end Go.Proofs.YtakaonojfpkhnaaDoor.Pr
end
section
/-
  What the statements of chapter 12 share: valid parameters and coalitions, the extended coalition, the vanishing polynomial.
-/
namespace Go.Proofs.YtakaonojfpkhnaaDoor.E
open Go.RowKit Go.Proofs.YtakaonojfpkhnaaDoor.Pr Go.Proofs.YtakaonojfpkhnaaDoor.Hw Go.Proofs.YtakaonojfpkhnaaDoor.Pl Go.Proofs.YtakaonojfpkhnaaDoorW.PrintWords Go.Proofs.YtakaonojfpkhnaaDoorW.PrintLast Go.Proofs.YtakaonojfpkhnaaDoorW.PrintMore
set_option linter.unusedVariables false
set_option linter.unusedSimpArgs false

/-! Valid parameters and coalitions. -/
theorem val12_ev (p N T : Int) : Ev (fun k => privityref12_Valid.f k p N T) (val12B p N T) := by
  unfold privityref12_Valid.f
  refine ev_if (supported_ev p) (fun h => ?_) (fun h => ?_)
  · unfold val12B
    rw [h, Bool.true_and]
    refine Ev.congr (fun k => ?_) (Ev.now _)
    by_cases h1 : 4 ≤ N
    · rw [if_pos h1]
      by_cases h2 : N ≤ 13
      · rw [if_pos h2, wrapU_id (by omega) (by omega)]
        by_cases h3 : N < p
        · rw [if_pos h3]
          by_cases h4 : 1 ≤ T
          · rw [if_pos h4]
            by_cases h5 : T < N
            · rw [if_pos h5, w64' (by omega) (by omega)]
              by_cases h6 : 3 * T < N
              · rw [decide_eq_true h6, decide_eq_true ⟨h1, h2, h3, h4, h5, h6⟩]
              · rw [decide_eq_false h6, decide_eq_false fun h => h6 h.2.2.2.2.2]
            · rw [if_neg h5, decide_eq_false fun h => h5 h.2.2.2.2.1]
          · rw [if_neg h4, decide_eq_false fun h => h4 h.2.2.2.1]
        · rw [if_neg h3, decide_eq_false fun h => h3 h.2.2.1]
      · rw [if_neg h2, decide_eq_false fun h => h2 h.2.1]
    · rw [if_neg h1, decide_eq_false fun h => h1 h.1]
  · have : val12B p N T = false := by unfold val12B; rw [h]; rfl
    rw [this]; exact Ev.now _
theorem coa12_ev (p N T : Int) (l : List Int) : Ev (fun k => privityref12_ValidCoalition.f k p N T l) (coaB p N T l) := by
  unfold privityref12_ValidCoalition.f
  have hno : ∀ r, r = false → Ev (fun k => privityref12_ValidCoalition.j0 k l true p N T) r := fun r hr => by
    subst hr
    refine Ev.step (fun k => ?_) (Ev.now _)
    simp only [privityref12_ValidCoalition.j0]
    rw [if_pos trivial]
  refine ev_if (val12_ev p N T) (fun h => ?_) (fun h => hno _ (by unfold coaB; rw [h]; rfl))
  unfold coaB
  rw [h, Bool.true_and]
  unfold val12B at h
  rw [Bool.and_eq_true, decide_eq_true_eq] at h
  obtain ⟨_, a1, a2, a3, a4, a5, a6⟩ := h
  by_cases hl : (l.length : Int) > T
  · rw [decide_eq_true hl]
    exact hno _ (by rw [decide_eq_false (by omega)]; rfl)
  · rw [decide_eq_false hl, decide_eq_true (by omega), Bool.true_and]
    refine Ev.step (f := fun k => privityref12_ValidCoalition.l0 k l ((0 : Nat) : Int) p N T) (fun k => ?_) ?_
    · simp only [privityref12_ValidCoalition.j0]
      rw [if_neg (by simp)]; rfl
    · refine allQ (F := fun k i => privityref12_ValidCoalition.l0 k l i p N T) (n := l.length) (Q := IncAt N l) (e := true) ?_ (fun i hi hq r h => ?_) (fun i hi hq => ?_) (incB N l) (by unfold incB; rw [decide_eq_true_iff]; exact ⟨fun h => ⟨h, rfl⟩, fun h => h.1⟩)
      · refine Ev.step (fun k => ?_) (Ev.now _)
        simp only [privityref12_ValidCoalition.l0]
        rw [if_neg (by omega)]
      · obtain ⟨q1, q2, q3⟩ := hq
        refine Ev.step (fun k => ?_) h
        simp only [privityref12_ValidCoalition.l0]
        rw [if_pos (by omega), if_pos (by omega), rd_nat, if_neg (by omega), if_neg (by omega), wnat (by omega)]
        by_cases h0 : i = 0
        · rw [if_neg (by omega)]
        · rw [if_pos (by omega), w64' (n := (i : Int) - 1) (by omega) (by omega), if_pos (by omega), if_pos (by omega), show (i : Int) - 1 = ((i - 1 : Nat) : Int) from by omega, rd_nat, if_neg (by have := q3.resolve_left h0; omega)]
      · refine Ev.step (fun k => ?_) (Ev.now _)
        simp only [privityref12_ValidCoalition.l0]
        rw [if_pos (by omega), if_pos (by omega), rd_nat]
        by_cases q1 : l.getD i 0 < 1
        · rw [if_pos q1]
        · rw [if_neg q1]
          by_cases q2 : l.getD i 0 > N
          · rw [if_pos q2]
          · have h0 : i ≠ 0 := fun e => hq ⟨by omega, by omega, .inl e⟩
            rw [if_neg q2, if_pos (by omega), w64' (n := (i : Int) - 1) (by omega) (by omega), if_pos (by omega), if_pos (by omega), show (i : Int) - 1 = ((i - 1 : Nat) : Int) from by omega, rd_nat, if_pos (Int.not_lt.1 fun h => hq ⟨by omega, by omega, .inr h⟩)]
/-- Valid parameters and a valid coalition. -/
structure Ok12 (p N T : Int) (bad : List Int) : Prop where
  hp : Supp p
  np : N < p
  coa : CoaB N T bad
/-! The vanishing polynomial. -/
/-! The program's own functions, and the reference's. -/
theorem Ok12.len {p N T : Int} {bad : List Int} (h : Ok12 p N T bad) : bad.length ≤ 13 ∧ (extB N T bad).length ≤ 13 := by
  have h1 := h.coa.n0
  have h2 := h.coa.n1
  have h3 := h.coa.len
  have h4 := h.coa.t1
  have h5 := extB_length h.coa
  omega
end Go.Proofs.YtakaonojfpkhnaaDoor.E
end
section
/-
  What the statements of chapter 12 share: the first check.
-/
namespace Go.Proofs.YtakaonojfpkhnaaDoor.E
open Go.RowKit Go.Proofs.YtakaonojfpkhnaaDoor.Pr Go.Proofs.YtakaonojfpkhnaaDoor.Hw Go.Proofs.YtakaonojfpkhnaaDoor.Pl Go.Proofs.YtakaonojfpkhnaaDoorW.PrintWords Go.Proofs.YtakaonojfpkhnaaDoorW.PrintLast Go.Proofs.YtakaonojfpkhnaaDoorW.PrintMore
set_option linter.unusedVariables false
set_option linter.unusedSimpArgs false

theorem awake12 : Ev (fun _ => privitylaw12_awake.f) true := Ev.now _
end Go.Proofs.YtakaonojfpkhnaaDoor.E
end
section
/-
  Valid scenarios, as the reference tells them.
-/
namespace Go.Proofs.YtakaonojfpkhnaaDoor.E
open Go.RowKit Go.Proofs.YtakaonojfpkhnaaDoor.Pr Go.Proofs.YtakaonojfpkhnaaDoor.Hw Go.Proofs.YtakaonojfpkhnaaDoor.E Go.Proofs.YtakaonojfpkhnaaDoor.Pl Go.Proofs.YtakaonojfpkhnaaDoorW.PrintWords Go.Proofs.YtakaonojfpkhnaaDoorW.PrintLast Go.Proofs.YtakaonojfpkhnaaDoorW.PrintMore
set_option linter.unusedVariables false
set_option linter.unusedSimpArgs false

theorem dev_eq (p N T : Int) (x : S42) : privityref12_Deviation.f p N T x.f0 x.f1 x.f2 x.f3 x.f4 x.f5 x.f6 x.f7 = some (lieB N x) := by
  unfold privityref12_Deviation.f lieB
  refine ite_some (ite_some (ite_some (ite_some (ite_some (ite_some (ite_some (ite_some (ite_some ?_))))))))
  by_cases h3 : x.f4 = 3
  · rw [if_pos h3, if_pos h3]
    by_cases h1 : x.f6 ≥ 1
    · rw [if_pos (by omega), decide_eq_true h1, Bool.true_and]
      by_cases h2 : x.f6 ≤ N
      · rw [if_pos h2, decide_eq_true h2]
      · rw [if_neg h2, decide_eq_false h2]
    · rw [decide_eq_false h1, Bool.false_and]
      by_cases h0 : x.f6 ≥ 0
      · rw [if_pos h0]
        by_cases h2 : x.f6 ≤ N
        · rw [if_pos h2]
        · rw [if_neg h2]
      · rw [if_neg h0]
  · rw [if_neg h3, if_neg h3]
    refine ite_some ?_
    by_cases h2 : x.f6 ≤ N
    · rw [if_pos h2, decide_eq_true h2]
    · rw [if_neg h2, decide_eq_false h2]
theorem rdD_in (d : List S42) (i : Nat) (h : i < d.length) : rd_T42 d (i : Int) = d[i] := by unfold rd_T42; rw [Int.toNat_natCast, List.getD_eq_getElem?_getD, List.getElem?_eq_getElem h]; rfl
theorem rdR_in (t : List (List Int)) (i : Nat) (h : i < t.length) : rd_L6 t (i : Int) = t[i] := by unfold rd_L6; rw [Int.toNat_natCast, List.getD_eq_getElem?_getD, List.getElem?_eq_getElem h]; rfl
theorem allD (q : S42 → Bool) (d : List S42) : d.all q = true ↔ ∀ i, i < d.length → q (rd_T42 d (i : Int)) = true := by
  rw [List.all_eq_true]
  refine ⟨fun h i hi => by rw [rdD_in d i hi]; exact h _ (List.getElem_mem hi), fun h x hx => ?_⟩
  obtain ⟨i, hi, rfl⟩ := List.getElem_of_mem hx
  rw [← rdD_in d i hi]; exact h i hi
theorem allR (q : List Int → Bool) (t : List (List Int)) : t.all q = true ↔ ∀ i, i < t.length → q (rd_L6 t (i : Int)) = true := by
  rw [List.all_eq_true]
  refine ⟨fun h i hi => by rw [rdR_in t i hi]; exact h _ (List.getElem_mem hi), fun h x hx => ?_⟩
  obtain ⟨i, hi, rfl⟩ := List.getElem_of_mem hx
  rw [← rdR_in t i hi]; exact h i hi
theorem not_any_all {α : Type} (q : α → Bool) (l : List α) : (!l.any fun x => !q x) = l.all q := by
  induction l with
  | nil => rfl
  | cons x l ih => rw [List.any_cons, List.all_cons, ← ih]; cases q x <;> simp
theorem scnB_eq (p N T : Int) (l : List Int) (d : List S42) (t : List (List Int)) : scnB p N T l d t = (coaB p N T l && (decide ((t.length : Int) = N) && (d.all (lieB N) && t.all (belowB p)))) := by
  unfold scnB
  have h1 : (fun y : List Int => y.any fun z => decide (p ≤ z)) = fun y => !belowB p y := by
    funext y
    unfold belowB
    rw [← not_any_all, Bool.not_not]
    refine congrArg (fun f => y.any f) (funext fun z => ?_)
    by_cases h : p ≤ z
    · rw [decide_eq_true h, decide_eq_false (by omega)]; rfl
    · rw [decide_eq_false h, decide_eq_true (by omega)]; rfl
  rw [not_any_all, h1, not_any_all]
theorem rscn_l1 (p N T : Int) (l : List Int) (d : List S42) (t : List (List Int)) (lt : t.length ≤ 1000000) (lx : ∀ i, i < t.length → (rd_L6 t (i : Int)).length ≤ 1000000) : Ev (fun k => privityref12_ValidScenario.l1 k 0 p N T l d t) (t.all (belowB p)) := by
  have := allQ (F := fun k i => privityref12_ValidScenario.l1 k i p N T l d t) (n := t.length) (Q := fun i => belowB p (rd_L6 t (i : Int)) = true) (e := true) ?_ (fun i hi hq r h => ?_) (fun i hi hq => ?_) (t.all (belowB p)) (by rw [allR]; exact ⟨fun h => ⟨h, rfl⟩, fun h => h.1⟩)
  · exact this
  · refine Ev.step (fun k => ?_) (Ev.now _)
    simp only [privityref12_ValidScenario.l1]
    rw [if_neg (by omega)]
  · refine Ev.step (f := fun k => (privityref05_Below.f k p (rd_L6 t (i : Int))).bind fun t278 => (if t278 = true then (privityref12_ValidScenario.l1 k ((i + 1 : Nat) : Int) p N T l d t) else (some false))) (fun k => ?_) ?_
    · simp only [privityref12_ValidScenario.l1]
      rw [if_pos (by omega), if_pos (by omega), wnat (by omega)]
    · have hb := below_ev p (rd_L6 t (i : Int)) (by have := lx i hi; omega)
      rw [hq] at hb
      exact ev_if hb (fun _ => h) (fun e => by cases e)
  · refine Ev.step (f := fun k => (privityref05_Below.f k p (rd_L6 t (i : Int))).bind fun t278 => (if t278 = true then (privityref12_ValidScenario.l1 k ((i + 1 : Nat) : Int) p N T l d t) else (some false))) (fun k => ?_) ?_
    · simp only [privityref12_ValidScenario.l1]
      rw [if_pos (by omega), if_pos (by omega), wnat (by omega)]
    · have hb := below_ev p (rd_L6 t (i : Int)) (by have := lx i hi; omega)
      rw [Bool.eq_false_iff.mpr hq] at hb
      exact ev_if hb (fun e => by cases e) (fun _ => Ev.now _)
theorem rscn_l0 (p N T : Int) (l : List Int) (d : List S42) (t : List (List Int)) (ld : d.length ≤ 1000000) (lt : t.length ≤ 1000000) (lx : ∀ i, i < t.length → (rd_L6 t (i : Int)).length ≤ 1000000) : Ev (fun k => privityref12_ValidScenario.l0 k 0 p N T l d t) (d.all (lieB N) && t.all (belowB p)) := by
  have := allQ (F := fun k i => privityref12_ValidScenario.l0 k i p N T l d t) (n := d.length) (Q := fun i => lieB N (rd_T42 d (i : Int)) = true) (e := t.all (belowB p)) ?_ (fun i hi hq r h => ?_) (fun i hi hq => ?_) (d.all (lieB N) && t.all (belowB p)) (by rw [Bool.and_eq_true, allD])
  · exact this
  · refine Ev.step (fun k => ?_) (rscn_l1 p N T l d t lt lx)
    simp only [privityref12_ValidScenario.l0]
    rw [if_neg (by omega)]
  · refine Ev.step (fun k => ?_) h
    simp only [privityref12_ValidScenario.l0]
    rw [if_pos (by omega), if_pos (by omega), dev_eq, Option.bind_some, hq, if_pos rfl, wnat (by omega)]
  · refine Ev.step (fun k => ?_) (Ev.now _)
    simp only [privityref12_ValidScenario.l0]
    rw [if_pos (by omega), if_pos (by omega), dev_eq, Option.bind_some, if_neg hq]
theorem rscn_ev (p N T : Int) (l : List Int) (d : List S42) (t : List (List Int)) (ld : d.length ≤ 1000000) (lt : t.length ≤ 1000000) (lx : ∀ i, i < t.length → (rd_L6 t (i : Int)).length ≤ 1000000) : Ev (fun k => privityref12_ValidScenario.f k p N T l d t) (scnB p N T l d t) := by
  rw [scnB_eq]
  unfold privityref12_ValidScenario.f
  have hno : Ev (fun k => privityref12_ValidScenario.j0 k true p N T l d t) false := by
    refine Ev.step (fun k => ?_) (Ev.now _)
    simp only [privityref12_ValidScenario.j0]
    rw [if_pos trivial]
  refine ev_if (val12_ev p N T) (fun h => ?_) (fun h => ?_)
  · refine ev_if (coa12_ev p N T l) (fun h2 => ?_) (fun h2 => ?_)
    · rw [h2, Bool.true_and]
      by_cases hl : (t.length : Int) = N
      · rw [decide_eq_true hl, Bool.true_and, bne_eq_false_iff_eq.mpr hl]
        refine Ev.step (fun k => ?_) (rscn_l0 p N T l d t ld lt lx)
        simp only [privityref12_ValidScenario.j0]
        rw [if_neg (by simp)]
      · rw [decide_eq_false hl, bne_iff_ne.mpr hl]
        exact hno
    · rw [h2]; exact hno
  · have : coaB p N T l = false := by unfold coaB; rw [h]; rfl
    rw [this]; exact hno
theorem pscn_eq {p N T : Int} {l : List Int} {d : List S42} {t : List (List Int)} (ld : d.length ≤ 1000000) (lt : t.length ≤ 1000000) (lx : ∀ i, i < t.length → (rd_L6 t (i : Int)).length ≤ 1000000) : params_ValidScenario.f p N T l d t = some (scnB p N T l d t) := by
  unfold params_ValidScenario.f
  rw [if_pos ld, if_pos lt, if_pos]
  rw [allR]
  exact fun i hi => decide_eq_true (lx i hi)
end Go.Proofs.YtakaonojfpkhnaaDoor.E
end
section
/-
  A further deviation keeps a scenario valid exactly if it is valid.
-/
namespace Go.Proofs.YtakaonojfpkhnaaDoor.Pure
open Go.RowKit Go.Proofs.YtakaonojfpkhnaaDoor.Pr Go.Proofs.YtakaonojfpkhnaaDoor.Hw Go.Proofs.YtakaonojfpkhnaaDoor.E Go.Proofs.YtakaonojfpkhnaaDoor.Pl Go.Proofs.YtakaonojfpkhnaaDoorW.PrintWords Go.Proofs.YtakaonojfpkhnaaDoorW.PrintLast Go.Proofs.YtakaonojfpkhnaaDoorW.PrintMore
set_option linter.unusedVariables false
set_option linter.unusedSimpArgs false

theorem light_ev (p N T : Int) (l : List Int) (d : List S42) (t : List (List Int)) : ∃ b, Ev (fun k => privityref12_Light.f k p N T l d t 13 20 300) b ∧ (b = true → scnB p N T l d t = true ∧ d.length ≤ 20 ∧ t.length ≤ 13 ∧ ∀ i, i < t.length → (rd_L6 t (i : Int)).length ≤ 1000000) := by
  have hno : Ev (fun k => privityref12_Light.j0 k 300 true p N T l d t) false := by
    refine Ev.step (fun k => ?_) (Ev.now _)
    simp only [privityref12_Light.j0]
    rw [if_pos trivial]
  unfold privityref12_Light.f
  by_cases h1 : N > 13
  · exact ⟨false, Ev.congr (fun k => if_pos h1) hno, fun h => by cases h⟩
  by_cases h2 : (d.length : Int) > 20
  · exact ⟨false, Ev.congr (fun k => by rw [if_neg h1, if_pos h2]) hno, fun h => by cases h⟩
  by_cases h3 : (t.length : Int) > 13
  · exact ⟨false, Ev.congr (fun k => by rw [if_neg h1, if_neg h2, decide_eq_true h3]) hno, fun h => by cases h⟩
  have start : ∀ {b}, Ev (fun k => privityref12_Light.l0 k 300 ((0 : Nat) : Int) p N T l d t) b → Ev (fun k => if N > 13 then privityref12_Light.j0 k 300 true p N T l d t else if (d.length : Int) > 20 then privityref12_Light.j0 k 300 true p N T l d t else privityref12_Light.j0 k 300 (decide ((t.length : Int) > 13)) p N T l d t) b := fun {b} h => by
    refine Ev.congr (f := fun k => privityref12_Light.j0 k 300 false p N T l d t) (fun k => by rw [if_neg h1, if_neg h2, decide_eq_false h3]) ?_
    refine Ev.step (fun k => ?_) h
    simp only [privityref12_Light.j0]
    rw [if_neg (by simp)]; rfl
  by_cases hall : ∃ i, i < t.length ∧ ((rd_L6 t (i : Int)).length : Int) > 300
  · obtain ⟨i, hi, hx⟩ := hall
    refine ⟨false, start (up (Q := fun j => Ev (fun k => privityref12_Light.l0 k 300 (j : Int) p N T l d t) false) (n := i) ?_ fun j hj h => ?_), fun h => by cases h⟩
    · refine Ev.step (fun k => ?_) (Ev.now _)
      simp only [privityref12_Light.l0]
      rw [if_pos (by omega), if_pos (by omega), if_pos hx]
    · by_cases hxj : ((rd_L6 t (j : Int)).length : Int) > 300
      · refine Ev.step (fun k => ?_) (Ev.now _)
        simp only [privityref12_Light.l0]
        rw [if_pos (by omega), if_pos (by omega), if_pos hxj]
      · refine Ev.step (fun k => ?_) h
        simp only [privityref12_Light.l0]
        rw [if_pos (by omega), if_pos (by omega), if_neg hxj, wnat (by omega)]
  · have hle : ∀ i, i < t.length → ¬ ((rd_L6 t (i : Int)).length : Int) > 300 := fun i hi h => hall ⟨i, hi, h⟩
    have lx : ∀ i, i < t.length → (rd_L6 t (i : Int)).length ≤ 1000000 := fun i hi => by have := hle i hi; omega
    refine ⟨scnB p N T l d t, start (up (Q := fun j => Ev (fun k => privityref12_Light.l0 k 300 (j : Int) p N T l d t) (scnB p N T l d t)) (n := t.length) ?_ fun j hj h => ?_), fun h => ⟨h, by omega, by omega, lx⟩⟩
    · refine Ev.step (f := fun k => (privityref12_ValidScenario.f k p N T l d t).bind fun t343 => (some t343)) (fun k => ?_) (Ev.bind (rscn_ev p N T l d t (by omega) (by omega) lx) (Ev.now _))
      simp only [privityref12_Light.l0]
      rw [if_neg (by omega)]
    · refine Ev.step (fun k => ?_) h
      simp only [privityref12_Light.l0]
      rw [if_pos (by omega), if_pos (by omega), if_neg (hle j hj), wnat (by omega)]
theorem ParamsScenarioWithExtraDeviation (p N T : Int) (l : List Int) (d : List S42) (t : List (List Int)) (b0 b1 b2 b3 b4 b5 b6 b7 : Int) {P1 P2 P3 P4 P5 P6 Q0 Q1 Q2 Q3 Q4 Q5 Q6 Q7 : Prop} (_ : P1) (_ : P2) (_ : P3) (_ : P4) (_ : P5) (_ : P6) (_ : Q0) (_ : Q1) (_ : Q2) (_ : Q3) (_ : Q4) (_ : Q5) (_ : Q6) (_ : Q7) : ∃ k, privitylaw12_ParamsScenarioWithExtraDeviation.f k p N T l d t b0 b1 b2 b3 b4 b5 b6 b7 = some true := by
  refine Ev.rounds (r := true) ?_
  unfold privitylaw12_ParamsScenarioWithExtraDeviation.f
  obtain ⟨b, hb, himp⟩ := light_ev p N T l d t
  refine ev_if awake12 (fun _ => ev_if hb (fun h => ?_) fun _ => Ev.now _) (fun h => by cases h)
  obtain ⟨hs, hd, ht, lx⟩ := himp h
  refine Ev.congr (fun k => Option.bind_some ..) ?_
  refine ev_ite (fun _ => ?_) (fun e => absurd (by rw [List.length_nil]; omega) e)
  refine Ev.congr (fun k => Option.bind_some ..) (Ev.congr (fun k => Option.bind_some ..) ?_)
  refine ev_ite (fun _ => ?_) (fun e => absurd (by simp only [List.length_append, List.length_nil, List.length_cons]; omega) e)
  have h1 := pscn_eq (p := p) (N := N) (T := T) (l := l) (d := d) (t := t) (by omega) (by omega) lx
  rw [hs] at h1
  have h2 := pscn_eq (p := p) (N := N) (T := T) (l := l) (d := [] ++ d ++ [(⟨b0, b1, b2, b3, b4, b5, b6, b7⟩ : S42)]) (t := t) (by simp only [List.length_append, List.length_nil, List.length_cons]; omega) (by omega) lx
  have h3 : scnB p N T l ([] ++ d ++ [(⟨b0, b1, b2, b3, b4, b5, b6, b7⟩ : S42)]) t = lieB N ⟨b0, b1, b2, b3, b4, b5, b6, b7⟩ := by
    rw [scnB_eq] at hs ⊢
    simp only [Bool.and_eq_true] at hs
    obtain ⟨a1, a2, a3, a4⟩ := hs
    rw [a1, a2, a4, List.nil_append, List.all_append, a3]
    simp
  rw [h3] at h2
  have h4 := dev_eq p N T ⟨b0, b1, b2, b3, b4, b5, b6, b7⟩
  refine ev_now_bind h1 (ev_ite (fun _ => ?_) (fun e => absurd rfl e))
  refine ev_now_bind h2 (ev_now_bind h4 ?_)
  rw [beq_self_eq_true]
  exact Ev.now _
end Go.Proofs.YtakaonojfpkhnaaDoor.Pure
end
section
/-
  What came in, opened: numbers, bools, rows and structs of them, to any depth.
-/
namespace Go.Proofs.YtakaonojfpkhnaaDoor.Op
open Go.RowKit Go.Proofs.YtakaonojfpkhnaaDoorW.PrintWords
set_option linter.unusedVariables false

/-- What is read of a type's value is a value of d, and Q holds of it. -/
def OpenK {α : Type} (P : Program) (t : TypeId) (d : Kd α) (Q : α → Prop) : Prop :=
  ∀ {H : Type} {enc : TypeId × Value → H} {w : World} {base : Nat} {sp : Nat → Bool} {hd : Bool} {fuel : Nat} {cs : List Value} {x : DataW H × List MemPlace}, DataW.trod enc P w base sp hd fuel t cs = some x → ∃ v : α, d.K w v cs ∧ Q v
theorem openInt {P : Program} {t : TypeId} {k : IntKind} (ht : P.underlying t = some (.int k)) : OpenK P t (Kd.int k) (fun n => (Lit.int k n).wf = true) := by
  intro H enc w base sp hd fuel cs x h
  obtain ⟨n, rfl, _, hw⟩ := DataW.trod_int ht h
  exact ⟨n, rfl, hw⟩
theorem exists_list {α : Type} {R : Nat → α → Prop} : ∀ (n : Nat), (∀ i, i < n → ∃ v, R i v) → ∃ l : List α, l.length = n ∧ ∀ i v, l[i]? = some v → R i v
  | 0, _ => ⟨[], rfl, fun i v h => by simp at h⟩
  | n + 1, h => by
    obtain ⟨l, hl, hr⟩ := exists_list n (fun i hi => h i (by omega))
    obtain ⟨v, hv⟩ := h n (by omega)
    refine ⟨l ++ [v], by simp [hl], fun i u hu => ?_⟩
    by_cases hi : i < n
    · rw [List.getElem?_append_left (by omega)] at hu
      exact hr i u hu
    · rw [List.getElem?_append_right (by omega)] at hu
      by_cases h0 : i - l.length = 0
      · rw [h0] at hu
        simp only [List.getElem?_cons_zero, Option.some.injEq] at hu
        rw [← hu, show i = n from by omega]; exact hv
      · rw [List.getElem?_eq_none (by simp; omega)] at hu; cases hu
theorem openSlice {α : Type} {P : Program} {t e : TypeId} {d : Kd α} {Q : α → Prop} (ht : P.underlying t = some (.slice e)) (hc : P.cellsOf e = d.sz) (he : OpenK P e d Q) : OpenK P t (Kd.slice e d) (fun l => ∀ x ∈ l, Q x) := by
  intro H enc w base sp hd fuel cs x h
  rcases DataW.trod_slice ht h with ⟨rfl, _⟩ | ⟨a, len, cap, elems, rest, n, _, rfl, _, _, hlc, hm, hlen, hel, _, _⟩
  · exact ⟨[], ⟨none, 0, rfl, Nat.le_refl _, rfl, Nat.zero_le _, fun h => absurd h (Nat.lt_irrefl 0)⟩, fun x hx => by cases hx⟩
  · have each : ∀ i, i < len → ∃ v, (∃ c, c.length = d.sz ∧ d.K w v c ∧ ∀ j u, c[j]? = some u → w.cell? (a.add (i * d.sz + j)) = some u) ∧ Q v := by
      intro i hi
      have h1 := hel i hi
      rw [List.getElem?_eq_getElem (by omega), hc] at h1
      obtain ⟨c, hcs, htr⟩ := Option.bind_eq_some_iff.1 h1
      obtain ⟨v, hk, hq⟩ := he htr
      refine ⟨v, ⟨c, d.K_len hk, hk, fun j u hu => ?_⟩, hq⟩
      have h2 := World.cells?_some hcs
      have hj := (List.getElem?_eq_some_iff.1 hu).1
      have h3 := h2.2.2 j (by rw [← d.K_len hk]; exact hj)
      rw [hu] at h3
      rw [← h3, ← Addr.add_add]
    obtain ⟨l, hl, hr⟩ := exists_list len each
    refine ⟨l, ⟨some a, cap, by rw [hl], by omega, rfl, by rw [hl]; simp only [maxLen] at hm; omega, fun _ => ⟨a, rfl, fun j p hj => (hr j p hj).1⟩⟩, fun x hx => ?_⟩
    obtain ⟨i, hi, rfl⟩ := List.getElem_of_mem hx
    exact (hr i _ (List.getElem?_eq_getElem hi)).2
/-- A struct's fields. -/
theorem openFields {P : Program} {H : Type} {enc : TypeId × Value → H} {w : World} {base : Nat} {sp : Nat → Bool} {hd : Bool} {fuel : Nat} {t : TypeId} {cs : List Value} {x : DataW H × List MemPlace} {fs : Array Field} (ht : P.underlying t = some (.struct fs))
    (h : DataW.trod enc P w base sp hd fuel t cs = some x) : cs.length = P.cellsOf t ∧ ∀ (i : Nat) (f : Field), fs[i]? = some f → ∃ n y, DataW.trod enc P w base sp hd n f.type ((cs.drop f.offset).take (P.cellsOf f.type)) = some y := by
  obtain ⟨xs, n, _, _, hl, hlen, hf⟩ := DataW.trod_struct ht h
  refine ⟨hl, fun i f hi => ?_⟩
  have h1 := hf i f hi
  have h2 : i < fs.size := (Array.getElem?_eq_some_iff.1 hi).1
  rw [List.getElem?_eq_getElem (by omega)] at h1
  exact ⟨n, _, h1⟩
end Go.Proofs.YtakaonojfpkhnaaDoor.Op
end
