/- The row of the law ParamsPartitionParties, out of its plain law and the walk. -/
import Derived.Test.YtakaonojfpkhnaaDoorZPartitionParties4
import Derived.Test.YtakaonojfpkhnaaDoorZPartitionParties3
import Derived.Test.YtakaonojfpkhnaaDoorZPartitionParties1
import Derived.Test.YtakaonojfpkhnaaDoorZPartitionParties2
import Derived.Test.YtakaonojfpkhnaaDoorProg
import Derived.ChangeArms
import Derived.DataReads
import Derived.DataElems
import Derived.ShutString
import Derived.ChangeSame
import Derived.OpenShut
import Derived.Test.YtakaonojfpkhnaaDoorZPartitionParties0
import Derived.Test.YtakaonojfpkhnaaDoorRows
import Derived.Test.YtakaonojfpkhnaaDoorTie
import Derived.Test.YtakaonojfpkhnaaDoorCards
import Derived.SevenTiedAt
import Derived.ProofKit
import Derived.LaidMore
import Derived.Stop.Joined
import Derived.WalkKit
import Derived.ChangeOld
import Derived.Below
import Derived.SizedLaws
section
/-
  awake of the statements of chapter 12, proved by hand.
-/
namespace Go.Proofs.YtakaonojfpkhnaaDoor.Hw
open Go.RowKit Go.Proofs.YtakaonojfpkhnaaDoor.Pr Go.Proofs.YtakaonojfpkhnaaDoorW.PrintWords Go.Proofs.YtakaonojfpkhnaaDoorW.PrintLast Go.Proofs.YtakaonojfpkhnaaDoorW.PrintMore Go.Proofs.YtakaonojfpkhnaaDoor.E
set_option linter.unusedVariables false
set_option linter.unusedSimpArgs false

theorem drawn_below {w w' : World} (h : Drawn0 w w') : Below w.heap.size w w' := by
  obtain ⟨nd, rfl⟩ := h
  exact pw_below_drewN (Below.refl _ _) nd
theorem aw_v1 : params_Valid.f 31 4 1 = some true := by kernel_rfl
theorem aw_v2 : params_Valid.f 31 6 2 = some false := by kernel_rfl
theorem aw_c1 : params_ValidCoalition.f 20 31 4 1 [3] = some true := by kernel_rfl
theorem aw_c2 : params_ValidCoalition.f 20 31 4 1 [3, 4] = some false := by kernel_rfl
theorem aw_e : params_ExtendCoalition.f 31 4 1 [] = some [1] := by kernel_rfl
theorem aw_i1 : privityref12_Ints.f 20 [1] [1] = some true := by kernel_rfl
theorem aw_h : params_HonestParties.f 31 4 1 [3] = some [1, 2, 4] := by kernel_rfl
theorem aw_i2 : privityref12_Ints.f 20 [1, 2, 4] [1, 2, 4] = some true := by kernel_rfl
theorem aw_p : params_VanishingPolynomial.f 40 31 4 1 [3] = some [1, 10] := by kernel_rfl
theorem aw_s : privityref05_Same.f 20 [1, 10] [1, 10] = some true := by kernel_rfl
theorem aw_w : params_ValidScenario.f 31 4 1 [] [] [[], [30], [], []] = some true := by kernel_rfl
theorem aw_x : params_ValidScenario.f 31 4 1 [] [] [[], [31], [], []] = some false := by kernel_rfl
theorem aw_scn (A : Option Addr) (c : Nat) (r : List (List Int)) (b : Bool) (hl : r.length ≤ c) (h : params_ValidScenario.f 31 4 1 [] [] r = some b) (W : World) (hx : Hx W) (hC : Kd.C (Kd.slice 22 (Kd.int .u64)) W A r.length r) :
    Calls Tryd.prog 14 #[.agg #[.int .u64 31, .int .i64 4, .int .i64 1, .slice none 0 0, .slice none 0 0, .slice A r.length c]] W fun e w' => e = .returned (.bool b) ∧ Below W.heap.size W w' :=
  params_ValidScenario.calls 31 4 1 none 0 [] none 0 [] A c r b W (Kd.C_nil _ _) (Nat.le_refl _) (Kd.C_nil _ _) (Nat.le_refl _) hC hl hx h
theorem aw_one3 : (#[.int .u64 31, .int .i64 4, .int .i64 1] : Array Value).all (·.oneCell') = true := by simp only [List.all_toArray, List.all_cons, List.all_nil]; rfl
theorem aw_one6 (A : Option Addr) (n c : Nat) : (#[.int .u64 31, .int .i64 4, .int .i64 1, .slice none 0 0, .slice none 0 0, .slice A n c] : Array Value).all (·.oneCell') = true := by simp only [List.all_toArray, List.all_cons, List.all_nil]; rfl
set_option maxHeartbeats 16000000 in
set_option maxRecDepth 100000 in
theorem awake_walk (w : World) (hx : Hx w) : Calls Tryd.prog 9 #[] w fun e w' => e = .returned (.bool true) ∧ Below w.heap.size w w' := by
  have HX := Aside0.mk hx
  clear hx
  have HB := Aside0.mk (Below.refl w.heap.size w)
  have hz1 : (Tryd.prog.info? 24).map (·.size) = some 3 := by kernel_rfl
  have hz2 : (Tryd.prog.info? 32).map (·.size) = some 6 := by kernel_rfl
  have HZ1 := Aside0.mk hz1
  have HZ2 := Aside0.mk hz2
  clear hz1 hz2
  obtain ⟨y30, hy30⟩ : ∃ y : List Int, y = [30] := ⟨_, rfl⟩
  obtain ⟨y31, hy31⟩ : ∃ y : List Int, y = [31] := ⟨_, rfl⟩
  obtain ⟨y3, hy3⟩ : ∃ y : List Int, y = [3] := ⟨_, rfl⟩
  obtain ⟨y34, hy34⟩ : ∃ y : List Int, y = [3, 4] := ⟨_, rfl⟩
  obtain ⟨y1, hy1⟩ : ∃ y : List Int, y = [1] := ⟨_, rfl⟩
  obtain ⟨y124, hy124⟩ : ∃ y : List Int, y = [1, 2, 4] := ⟨_, rfl⟩
  obtain ⟨y110, hy110⟩ : ∃ y : List Int, y = [1, 10] := ⟨_, rfl⟩
  obtain ⟨r30, hr30⟩ : ∃ y : List (List Int), y = [[], y30, [], []] := ⟨_, rfl⟩
  obtain ⟨r31, hr31⟩ : ∃ y : List (List Int), y = [[], y31, [], []] := ⟨_, rfl⟩
  have Fc1 := Aside0.mk (show params_ValidCoalition.f 20 31 4 1 y3 = some true by rw [hy3]; exact aw_c1)
  have Fc2 := Aside0.mk (show params_ValidCoalition.f 20 31 4 1 y34 = some false by rw [hy34]; exact aw_c2)
  have Fe := Aside0.mk (show params_ExtendCoalition.f 31 4 1 [] = some y1 by rw [hy1]; exact aw_e)
  have Fi1 := Aside0.mk (show privityref12_Ints.f 20 y1 y1 = some true by rw [hy1]; exact aw_i1)
  have Fh := Aside0.mk (show params_HonestParties.f 31 4 1 y3 = some y124 by rw [hy3, hy124]; exact aw_h)
  have Fi2 := Aside0.mk (show privityref12_Ints.f 20 y124 y124 = some true by rw [hy124]; exact aw_i2)
  have Fp := Aside0.mk (show params_VanishingPolynomial.f 40 31 4 1 y3 = some y110 by rw [hy3, hy110]; exact aw_p)
  have Fs := Aside0.mk (show privityref05_Same.f 20 y110 y110 = some true by rw [hy110]; exact aw_s)
  have Fw := Aside0.mk (show params_ValidScenario.f 31 4 1 [] [] r30 = some true by rw [hr30, hy30]; exact aw_w)
  have Fx := Aside0.mk (show params_ValidScenario.f 31 4 1 [] [] r31 = some false by rw [hr31, hy31]; exact aw_x)
  have Ny30 := Aside0.mk hy30
  have Ny31 := Aside0.mk hy31
  have Ny3 := Aside0.mk hy3
  have Ny34 := Aside0.mk hy34
  have Ny1 := Aside0.mk hy1
  have Ny124 := Aside0.mk hy124
  have Ny110 := Aside0.mk hy110
  have Nr30 := Aside0.mk hr30
  have Nr31 := Aside0.mk hr31
  clear hy30 hy31 hy3 hy34 hy1 hy124 hy110 hr30 hr31
  go_enter Tryd.func9, Tryd.ntmps9
  go_wp2_with (first
    | ((with_reducible refine gate_dst (N := 1) rfl ?_); refine box_event ?hg (N := 1) ?hd (cs := #[.int .u64 0, .int .i64 0, .int .i64 0]) (t := 24) ?hr ?_; (case hd => rfl); (case hg => rfl); (case hr => first | (go_simp; done) | (go_simp; rfl)); intro g1 hg w101 hbox hb; have GE := Aside0.mk (show w.heap.size ≤ g1 from Nat.le_of_eq hg.symm); have BP := Aside0.mk hb; have BK1 := Aside0.mk hbox; clear hbox hb hg)
    | ((with_reducible refine gate_store (p := 1) rfl ?_); refine st_row rfl 24 (.tmp 1) (.tmp 4) rfl g1 #[.int .u64 31, .int .i64 4, .int .i64 1] (by rfl) (by rfl) 24 #[.int .u64 0, .int .i64 0, .int .i64 0] BK1.out HZ1.out rfl (aw_one3) ?_; intro w102 hbk hbw hbo; have hb := hbw _ _ GE.out BP.out; clear BP GE hbw hbo; have m_HB := Aside0.mk (below_step HB.out hb); clear HB; have HB := m_HB; clear m_HB; clear BK1; have BK1 := Aside0.mk hbk; clear hb hbk; (try clear q0 q1 q2); have q0 : w102.cell? ⟨g1, 0, none⟩ = some (.int .u64 31) := (blk_cell BK1.out 0).trans rfl; have q1 : w102.cell? ⟨g1, 1, none⟩ = some (.int .i64 4) := (blk_cell BK1.out 1).trans rfl; have q2 : w102.cell? ⟨g1, 2, none⟩ = some (.int .i64 1) := (blk_cell BK1.out 2).trans rfl)
    | ((with_reducible refine gate_dst (N := 6) rfl ?_); (try (refine gate_guard (by rfl) ?_; dsimp only)); refine Kd.R_lit (Kd.int .u64) _ 22 ?hg (N := 6) ?hd (xs := ([30] : List Int)) (inner := [.int .u64 30]) (ok := fun _ => True) (okp := fun _ => True) ?hr ?hp (fun _ hk => hk) trivial (Below.refl _ _) (Nat.le_refl _) (by simp) ?_; (case hd => rfl); (case hg => rfl); (case hr => first | (go_simp; done) | (go_simp; rfl)); (case hp => exact (Reps.one (show Kd.M (Kd.int .u64) _ _ _ 30 [.int .u64 30] from rfl) (Reps.none _ _))); intro v6 w103 ho hb hg_ hnew_; clear hg_ hnew_; (first | rw [← Ny30.out] at ho | (simp only [Int.reduceToNat] at ho; rw [← Ny30.out] at ho)); obtain ⟨A6, c6, e6⟩ := Kd.R_slice ho; subst e6; have C6 := Aside0.mk (Kd.R_reads' ho).2.2; have L6 := Aside0.mk (Kd.R_reads' ho).2.1; have HO6 := Aside0.mk (Kd.R_lower ho (below_size HB.out)); have m_HB := Aside0.mk (below_step HB.out hb); have m_BK1 := Aside0.mk (blk_below BK1.out hb); clear HB; have HB := m_HB; clear m_HB; clear BK1; have BK1 := m_BK1; clear m_BK1; clear ho hb; (try clear q0 q1 q2); have q0 : w103.cell? ⟨g1, 0, none⟩ = some (.int .u64 31) := (blk_cell BK1.out 0).trans rfl; have q1 : w103.cell? ⟨g1, 1, none⟩ = some (.int .i64 4) := (blk_cell BK1.out 1).trans rfl; have q2 : w103.cell? ⟨g1, 2, none⟩ = some (.int .i64 1) := (blk_cell BK1.out 2).trans rfl)
    | ((with_reducible refine gate_dst (N := 7) rfl ?_); (try (refine gate_guard (by rfl) ?_; dsimp only)); refine Kd.N_lit (Kd.slice 22 (Kd.int .u64)) _ 33 ?hg (N' := 7) ?hd (xs := ([[], y30, [], []] : List (List Int))) (inner := [.slice none 0 0, .slice A6 y30.length c6, .slice none 0 0, .slice none 0 0]) (ok := fun _ => True) (okp := fun _ => True) ?hr ?hp (fun _ hk => hk) trivial (Below.refl _ _) (Nat.le_refl _) (by simp) ?_; (case hd => rfl); (case hg => rfl); (case hr => first | (go_simp; done) | (go_simp; rfl)); (case hp => exact (Reps.one (show Kd.FK (Kd.slice 22 (Kd.int .u64)) _ _ [] [.slice none 0 0] from (Kd.FK_slice_mk (Nat.le_refl _) (Kd.F_nil _ _ _))) (Reps.one (show Kd.FK (Kd.slice 22 (Kd.int .u64)) _ _ y30 [.slice A6 y30.length c6] from (Kd.FK_slice_mk (Kd.R_reads' HO6.out).2.1 (Kd.R_F HO6.out))) (Reps.one (show Kd.FK (Kd.slice 22 (Kd.int .u64)) _ _ [] [.slice none 0 0] from (Kd.FK_slice_mk (Nat.le_refl _) (Kd.F_nil _ _ _))) (Reps.one (show Kd.FK (Kd.slice 22 (Kd.int .u64)) _ _ [] [.slice none 0 0] from (Kd.FK_slice_mk (Nat.le_refl _) (Kd.F_nil _ _ _))) (Reps.none _ _)))))); intro v7 w104 ho hb hg_ hnew_; clear hg_ hnew_; (first | rw [← Nr30.out] at ho | (simp only [Int.reduceToNat] at ho; rw [← Nr30.out] at ho)); obtain ⟨A7, c7, e7⟩ := Kd.N_slice ho; subst e7; have C7 := Aside0.mk (Kd.N_reads' ho).2.2; have L7 := Aside0.mk (Kd.N_reads' ho).2.1; have m_HB := Aside0.mk (below_step HB.out hb); have m_BK1 := Aside0.mk (blk_below BK1.out hb); clear HB; have HB := m_HB; clear m_HB; clear BK1; have BK1 := m_BK1; clear m_BK1; clear ho hb HO6; (try clear q0 q1 q2); have q0 : w104.cell? ⟨g1, 0, none⟩ = some (.int .u64 31) := (blk_cell BK1.out 0).trans rfl; have q1 : w104.cell? ⟨g1, 1, none⟩ = some (.int .i64 4) := (blk_cell BK1.out 1).trans rfl; have q2 : w104.cell? ⟨g1, 2, none⟩ = some (.int .i64 1) := (blk_cell BK1.out 2).trans rfl)
    | ((with_reducible refine gate_dst (N := 2) rfl ?_); refine box_event ?hg (N := 2) ?hd (cs := #[.int .u64 0, .int .i64 0, .int .i64 0, .slice none 0 0, .slice none 0 0, .slice none 0 0]) (t := 32) ?hr ?_; (case hd => rfl); (case hg => rfl); (case hr => first | (go_simp; done) | (go_simp; rfl)); intro g2 hg w105 hbox hb; have GE := Aside0.mk (show w104.heap.size ≤ g2 from Nat.le_of_eq hg.symm); have BP := Aside0.mk hb; have BK2 := Aside0.mk hbox; clear hbox hb hg)
    | ((with_reducible refine gate_store (p := 2) rfl ?_); refine st_row rfl 32 (.tmp 2) (.tmp 8) rfl g2 #[.int .u64 31, .int .i64 4, .int .i64 1, .slice none 0 0, .slice none 0 0, .slice A7 r30.length c7] (by rfl) (by rfl) 32 #[.int .u64 0, .int .i64 0, .int .i64 0, .slice none 0 0, .slice none 0 0, .slice none 0 0] BK2.out HZ2.out rfl (aw_one6 _ _ _) ?_; intro w106 hbk hbw hbo; have hb := hbw _ _ GE.out BP.out; clear BP GE hbw hbo; have m_HB := Aside0.mk (below_step HB.out hb); have m_BK1 := Aside0.mk (blk_below BK1.out hb); have m_C7 := Aside0.mk (Kd.C_below C7.out hb); clear HB; have HB := m_HB; clear m_HB; clear BK1; have BK1 := m_BK1; clear m_BK1; clear C7; have C7 := m_C7; clear m_C7; clear BK2; have BK2 := Aside0.mk hbk; clear hb hbk; (try clear q0 q1 q2); have q0 : w106.cell? ⟨g1, 0, none⟩ = some (.int .u64 31) := (blk_cell BK1.out 0).trans rfl; have q1 : w106.cell? ⟨g1, 1, none⟩ = some (.int .i64 4) := (blk_cell BK1.out 1).trans rfl; have q2 : w106.cell? ⟨g1, 2, none⟩ = some (.int .i64 1) := (blk_cell BK1.out 2).trans rfl)
    | ((with_reducible refine gate_dst (N := 10) rfl ?_); (try (refine gate_guard (by rfl) ?_; dsimp only)); refine Kd.R_lit (Kd.int .u64) _ 22 ?hg (N := 10) ?hd (xs := ([31] : List Int)) (inner := [.int .u64 31]) (ok := fun _ => True) (okp := fun _ => True) ?hr ?hp (fun _ hk => hk) trivial (Below.refl _ _) (Nat.le_refl _) (by simp) ?_; (case hd => rfl); (case hg => rfl); (case hr => first | (go_simp; done) | (go_simp; rfl)); (case hp => exact (Reps.one (show Kd.M (Kd.int .u64) _ _ _ 31 [.int .u64 31] from rfl) (Reps.none _ _))); intro v10 w107 ho hb hg_ hnew_; clear hg_ hnew_; (first | rw [← Ny31.out] at ho | (simp only [Int.reduceToNat] at ho; rw [← Ny31.out] at ho)); obtain ⟨A10, c10, e10⟩ := Kd.R_slice ho; subst e10; have C10 := Aside0.mk (Kd.R_reads' ho).2.2; have L10 := Aside0.mk (Kd.R_reads' ho).2.1; have HO10 := Aside0.mk (Kd.R_lower ho (below_size HB.out)); have m_HB := Aside0.mk (below_step HB.out hb); have m_BK1 := Aside0.mk (blk_below BK1.out hb); have m_C7 := Aside0.mk (Kd.C_below C7.out hb); have m_BK2 := Aside0.mk (blk_below BK2.out hb); clear HB; have HB := m_HB; clear m_HB; clear BK1; have BK1 := m_BK1; clear m_BK1; clear C7; have C7 := m_C7; clear m_C7; clear BK2; have BK2 := m_BK2; clear m_BK2; clear ho hb; (try clear q0 q1 q2); have q0 : w107.cell? ⟨g1, 0, none⟩ = some (.int .u64 31) := (blk_cell BK1.out 0).trans rfl; have q1 : w107.cell? ⟨g1, 1, none⟩ = some (.int .i64 4) := (blk_cell BK1.out 1).trans rfl; have q2 : w107.cell? ⟨g1, 2, none⟩ = some (.int .i64 1) := (blk_cell BK1.out 2).trans rfl)
    | ((with_reducible refine gate_dst (N := 11) rfl ?_); (try (refine gate_guard (by rfl) ?_; dsimp only)); refine Kd.N_lit (Kd.slice 22 (Kd.int .u64)) _ 33 ?hg (N' := 11) ?hd (xs := ([[], y31, [], []] : List (List Int))) (inner := [.slice none 0 0, .slice A10 y31.length c10, .slice none 0 0, .slice none 0 0]) (ok := fun _ => True) (okp := fun _ => True) ?hr ?hp (fun _ hk => hk) trivial (Below.refl _ _) (Nat.le_refl _) (by simp) ?_; (case hd => rfl); (case hg => rfl); (case hr => first | (go_simp; done) | (go_simp; rfl)); (case hp => exact (Reps.one (show Kd.FK (Kd.slice 22 (Kd.int .u64)) _ _ [] [.slice none 0 0] from (Kd.FK_slice_mk (Nat.le_refl _) (Kd.F_nil _ _ _))) (Reps.one (show Kd.FK (Kd.slice 22 (Kd.int .u64)) _ _ y31 [.slice A10 y31.length c10] from (Kd.FK_slice_mk (Kd.R_reads' HO10.out).2.1 (Kd.R_F HO10.out))) (Reps.one (show Kd.FK (Kd.slice 22 (Kd.int .u64)) _ _ [] [.slice none 0 0] from (Kd.FK_slice_mk (Nat.le_refl _) (Kd.F_nil _ _ _))) (Reps.one (show Kd.FK (Kd.slice 22 (Kd.int .u64)) _ _ [] [.slice none 0 0] from (Kd.FK_slice_mk (Nat.le_refl _) (Kd.F_nil _ _ _))) (Reps.none _ _)))))); intro v11 w108 ho hb hg_ hnew_; clear hg_ hnew_; (first | rw [← Nr31.out] at ho | (simp only [Int.reduceToNat] at ho; rw [← Nr31.out] at ho)); obtain ⟨A11, c11, e11⟩ := Kd.N_slice ho; subst e11; have C11 := Aside0.mk (Kd.N_reads' ho).2.2; have L11 := Aside0.mk (Kd.N_reads' ho).2.1; have m_HB := Aside0.mk (below_step HB.out hb); have m_BK1 := Aside0.mk (blk_below BK1.out hb); have m_C7 := Aside0.mk (Kd.C_below C7.out hb); have m_BK2 := Aside0.mk (blk_below BK2.out hb); clear HB; have HB := m_HB; clear m_HB; clear BK1; have BK1 := m_BK1; clear m_BK1; clear C7; have C7 := m_C7; clear m_C7; clear BK2; have BK2 := m_BK2; clear m_BK2; clear ho hb HO10; (try clear q0 q1 q2); have q0 : w108.cell? ⟨g1, 0, none⟩ = some (.int .u64 31) := (blk_cell BK1.out 0).trans rfl; have q1 : w108.cell? ⟨g1, 1, none⟩ = some (.int .i64 4) := (blk_cell BK1.out 1).trans rfl; have q2 : w108.cell? ⟨g1, 2, none⟩ = some (.int .i64 1) := (blk_cell BK1.out 2).trans rfl)
    | ((with_reducible refine gate_dst (N := 3) rfl ?_); refine box_event ?hg (N := 3) ?hd (cs := #[.int .u64 0, .int .i64 0, .int .i64 0, .slice none 0 0, .slice none 0 0, .slice none 0 0]) (t := 32) ?hr ?_; (case hd => rfl); (case hg => rfl); (case hr => first | (go_simp; done) | (go_simp; rfl)); intro g3 hg w109 hbox hb; have GE := Aside0.mk (show w108.heap.size ≤ g3 from Nat.le_of_eq hg.symm); have BP := Aside0.mk hb; have BK3 := Aside0.mk hbox; clear hbox hb hg)
    | ((with_reducible refine gate_store (p := 3) rfl ?_); refine st_row rfl 32 (.tmp 3) (.tmp 12) rfl g3 #[.int .u64 31, .int .i64 4, .int .i64 1, .slice none 0 0, .slice none 0 0, .slice A11 r31.length c11] (by rfl) (by rfl) 32 #[.int .u64 0, .int .i64 0, .int .i64 0, .slice none 0 0, .slice none 0 0, .slice none 0 0] BK3.out HZ2.out rfl (aw_one6 _ _ _) ?_; intro w110 hbk hbw hbo; have hb := hbw _ _ GE.out BP.out; clear BP GE hbw hbo; have m_HB := Aside0.mk (below_step HB.out hb); have m_BK1 := Aside0.mk (blk_below BK1.out hb); have m_C7 := Aside0.mk (Kd.C_below C7.out hb); have m_BK2 := Aside0.mk (blk_below BK2.out hb); have m_C11 := Aside0.mk (Kd.C_below C11.out hb); clear HB; have HB := m_HB; clear m_HB; clear BK1; have BK1 := m_BK1; clear m_BK1; clear C7; have C7 := m_C7; clear m_C7; clear BK2; have BK2 := m_BK2; clear m_BK2; clear C11; have C11 := m_C11; clear m_C11; clear BK3; have BK3 := Aside0.mk hbk; clear hb hbk; (try clear q0 q1 q2); have q0 : w110.cell? ⟨g1, 0, none⟩ = some (.int .u64 31) := (blk_cell BK1.out 0).trans rfl; have q1 : w110.cell? ⟨g1, 1, none⟩ = some (.int .i64 4) := (blk_cell BK1.out 1).trans rfl; have q2 : w110.cell? ⟨g1, 2, none⟩ = some (.int .i64 1) := (blk_cell BK1.out 2).trans rfl)
    | (go_at_call 10; (with_reducible refine (params_Valid.calls 31 4 1 true _ (Hx_below HX.out HB.out) aw_v1).mono ?_); rintro e w111 ⟨rfl, hb⟩; have m_HB := Aside0.mk (below_step HB.out hb); have m_BK1 := Aside0.mk (blk_below BK1.out hb); have m_C7 := Aside0.mk (Kd.C_below C7.out hb); have m_BK2 := Aside0.mk (blk_below BK2.out hb); have m_C11 := Aside0.mk (Kd.C_below C11.out hb); have m_BK3 := Aside0.mk (blk_below BK3.out hb); clear HB; have HB := m_HB; clear m_HB; clear BK1; have BK1 := m_BK1; clear m_BK1; clear C7; have C7 := m_C7; clear m_C7; clear BK2; have BK2 := m_BK2; clear m_BK2; clear C11; have C11 := m_C11; clear m_C11; clear BK3; have BK3 := m_BK3; clear m_BK3; clear hb; (try clear q0 q1 q2); have q0 : w111.cell? ⟨g1, 0, none⟩ = some (.int .u64 31) := (blk_cell BK1.out 0).trans rfl; have q1 : w111.cell? ⟨g1, 1, none⟩ = some (.int .i64 4) := (blk_cell BK1.out 1).trans rfl; have q2 : w111.cell? ⟨g1, 2, none⟩ = some (.int .i64 1) := (blk_cell BK1.out 2).trans rfl)
    | (go_at_call 10; (with_reducible refine (params_Valid.calls 31 6 2 false _ (Hx_below HX.out HB.out) aw_v2).mono ?_); rintro e w112 ⟨rfl, hb⟩; have m_HB := Aside0.mk (below_step HB.out hb); have m_BK1 := Aside0.mk (blk_below BK1.out hb); have m_C7 := Aside0.mk (Kd.C_below C7.out hb); have m_BK2 := Aside0.mk (blk_below BK2.out hb); have m_C11 := Aside0.mk (Kd.C_below C11.out hb); have m_BK3 := Aside0.mk (blk_below BK3.out hb); clear HB; have HB := m_HB; clear m_HB; clear BK1; have BK1 := m_BK1; clear m_BK1; clear C7; have C7 := m_C7; clear m_C7; clear BK2; have BK2 := m_BK2; clear m_BK2; clear C11; have C11 := m_C11; clear m_C11; clear BK3; have BK3 := m_BK3; clear m_BK3; clear hb; (try clear q0 q1 q2); have q0 : w112.cell? ⟨g1, 0, none⟩ = some (.int .u64 31) := (blk_cell BK1.out 0).trans rfl; have q1 : w112.cell? ⟨g1, 1, none⟩ = some (.int .i64 4) := (blk_cell BK1.out 1).trans rfl; have q2 : w112.cell? ⟨g1, 2, none⟩ = some (.int .i64 1) := (blk_cell BK1.out 2).trans rfl)
    | ((with_reducible refine gate_dst (N := 22) rfl ?_); (try (refine gate_guard (by rfl) ?_; dsimp only)); refine Kd.R_lit (Kd.int .i64) _ 3 ?hg (N := 22) ?hd (xs := ([3] : List Int)) (inner := [.int .i64 3]) (ok := fun _ => True) (okp := fun _ => True) ?hr ?hp (fun _ hk => hk) trivial (Below.refl _ _) (Nat.le_refl _) (by simp) ?_; (case hd => rfl); (case hg => rfl); (case hr => first | (go_simp; done) | (go_simp; rfl)); (case hp => exact (Reps.one (show Kd.M (Kd.int .i64) _ _ _ 3 [.int .i64 3] from rfl) (Reps.none _ _))); intro v22 w113 ho hb hg_ hnew_; clear hg_ hnew_; (first | rw [← Ny3.out] at ho | (simp only [Int.reduceToNat] at ho; rw [← Ny3.out] at ho)); obtain ⟨A22, c22, e22⟩ := Kd.R_slice ho; subst e22; have C22 := Aside0.mk (Kd.R_reads' ho).2.2; have L22 := Aside0.mk (Kd.R_reads' ho).2.1; have m_HB := Aside0.mk (below_step HB.out hb); have m_BK1 := Aside0.mk (blk_below BK1.out hb); have m_C7 := Aside0.mk (Kd.C_below C7.out hb); have m_BK2 := Aside0.mk (blk_below BK2.out hb); have m_C11 := Aside0.mk (Kd.C_below C11.out hb); have m_BK3 := Aside0.mk (blk_below BK3.out hb); clear HB; have HB := m_HB; clear m_HB; clear BK1; have BK1 := m_BK1; clear m_BK1; clear C7; have C7 := m_C7; clear m_C7; clear BK2; have BK2 := m_BK2; clear m_BK2; clear C11; have C11 := m_C11; clear m_C11; clear BK3; have BK3 := m_BK3; clear m_BK3; clear ho hb; (try clear q0 q1 q2); have q0 : w113.cell? ⟨g1, 0, none⟩ = some (.int .u64 31) := (blk_cell BK1.out 0).trans rfl; have q1 : w113.cell? ⟨g1, 1, none⟩ = some (.int .i64 4) := (blk_cell BK1.out 1).trans rfl; have q2 : w113.cell? ⟨g1, 2, none⟩ = some (.int .i64 1) := (blk_cell BK1.out 2).trans rfl)
    | (go_at_call 12; (with_reducible refine (params_ValidCoalition.calls 20 31 4 1 A22 c22 y3 true _ C22.out L22.out (Hx_below HX.out HB.out) Fc1.out).mono ?_); rintro e w114 ⟨rfl, hb⟩; have m_HB := Aside0.mk (below_step HB.out hb); have m_BK1 := Aside0.mk (blk_below BK1.out hb); have m_C7 := Aside0.mk (Kd.C_below C7.out hb); have m_BK2 := Aside0.mk (blk_below BK2.out hb); have m_C11 := Aside0.mk (Kd.C_below C11.out hb); have m_BK3 := Aside0.mk (blk_below BK3.out hb); clear HB; have HB := m_HB; clear m_HB; clear BK1; have BK1 := m_BK1; clear m_BK1; clear C7; have C7 := m_C7; clear m_C7; clear BK2; have BK2 := m_BK2; clear m_BK2; clear C11; have C11 := m_C11; clear m_C11; clear BK3; have BK3 := m_BK3; clear m_BK3; clear hb; (try clear q0 q1 q2); have q0 : w114.cell? ⟨g1, 0, none⟩ = some (.int .u64 31) := (blk_cell BK1.out 0).trans rfl; have q1 : w114.cell? ⟨g1, 1, none⟩ = some (.int .i64 4) := (blk_cell BK1.out 1).trans rfl; have q2 : w114.cell? ⟨g1, 2, none⟩ = some (.int .i64 1) := (blk_cell BK1.out 2).trans rfl)
    | ((with_reducible refine gate_dst (N := 27) rfl ?_); (try (refine gate_guard (by rfl) ?_; dsimp only)); refine Kd.R_lit (Kd.int .i64) _ 3 ?hg (N := 27) ?hd (xs := ([3, 4] : List Int)) (inner := [.int .i64 3, .int .i64 4]) (ok := fun _ => True) (okp := fun _ => True) ?hr ?hp (fun _ hk => hk) trivial (Below.refl _ _) (Nat.le_refl _) (by simp) ?_; (case hd => rfl); (case hg => rfl); (case hr => first | (go_simp; done) | (go_simp; rfl)); (case hp => exact (Reps.one (show Kd.M (Kd.int .i64) _ _ _ 3 [.int .i64 3] from rfl) (Reps.one (show Kd.M (Kd.int .i64) _ _ _ 4 [.int .i64 4] from rfl) (Reps.none _ _)))); intro v27 w115 ho hb hg_ hnew_; clear hg_ hnew_; (first | rw [← Ny34.out] at ho | (simp only [Int.reduceToNat] at ho; rw [← Ny34.out] at ho)); obtain ⟨A27, c27, e27⟩ := Kd.R_slice ho; subst e27; have C27 := Aside0.mk (Kd.R_reads' ho).2.2; have L27 := Aside0.mk (Kd.R_reads' ho).2.1; have m_HB := Aside0.mk (below_step HB.out hb); have m_BK1 := Aside0.mk (blk_below BK1.out hb); have m_C7 := Aside0.mk (Kd.C_below C7.out hb); have m_BK2 := Aside0.mk (blk_below BK2.out hb); have m_C11 := Aside0.mk (Kd.C_below C11.out hb); have m_BK3 := Aside0.mk (blk_below BK3.out hb); clear HB; have HB := m_HB; clear m_HB; clear BK1; have BK1 := m_BK1; clear m_BK1; clear C7; have C7 := m_C7; clear m_C7; clear BK2; have BK2 := m_BK2; clear m_BK2; clear C11; have C11 := m_C11; clear m_C11; clear BK3; have BK3 := m_BK3; clear m_BK3; clear ho hb; (try clear q0 q1 q2); have q0 : w115.cell? ⟨g1, 0, none⟩ = some (.int .u64 31) := (blk_cell BK1.out 0).trans rfl; have q1 : w115.cell? ⟨g1, 1, none⟩ = some (.int .i64 4) := (blk_cell BK1.out 1).trans rfl; have q2 : w115.cell? ⟨g1, 2, none⟩ = some (.int .i64 1) := (blk_cell BK1.out 2).trans rfl)
    | (go_at_call 12; (with_reducible refine (params_ValidCoalition.calls 20 31 4 1 A27 c27 y34 false _ C27.out L27.out (Hx_below HX.out HB.out) Fc2.out).mono ?_); rintro e w116 ⟨rfl, hb⟩; have m_HB := Aside0.mk (below_step HB.out hb); have m_BK1 := Aside0.mk (blk_below BK1.out hb); have m_C7 := Aside0.mk (Kd.C_below C7.out hb); have m_BK2 := Aside0.mk (blk_below BK2.out hb); have m_C11 := Aside0.mk (Kd.C_below C11.out hb); have m_BK3 := Aside0.mk (blk_below BK3.out hb); clear HB; have HB := m_HB; clear m_HB; clear BK1; have BK1 := m_BK1; clear m_BK1; clear C7; have C7 := m_C7; clear m_C7; clear BK2; have BK2 := m_BK2; clear m_BK2; clear C11; have C11 := m_C11; clear m_C11; clear BK3; have BK3 := m_BK3; clear m_BK3; clear hb; (try clear q0 q1 q2); have q0 : w116.cell? ⟨g1, 0, none⟩ = some (.int .u64 31) := (blk_cell BK1.out 0).trans rfl; have q1 : w116.cell? ⟨g1, 1, none⟩ = some (.int .i64 4) := (blk_cell BK1.out 1).trans rfl; have q2 : w116.cell? ⟨g1, 2, none⟩ = some (.int .i64 1) := (blk_cell BK1.out 2).trans rfl)
    | (go_at_call 16; (refine (params_ExtendCoalition.calls 31 4 1 none 0 [] y1 _ (Kd.C_nil _ _) (Nat.le_refl _) Fe.out).mono ?_); rintro e w117 ⟨v33, rfl, ho, hb⟩; obtain ⟨A33, c33, e33⟩ := Kd.R_slice ho; subst e33; have C33 := Aside0.mk (Kd.R_reads' ho).2.2; have L33 := Aside0.mk (Kd.R_reads' ho).2.1; clear ho; have m_HB := Aside0.mk (below_step HB.out hb); have m_BK1 := Aside0.mk (blk_below BK1.out hb); have m_C7 := Aside0.mk (Kd.C_below C7.out hb); have m_BK2 := Aside0.mk (blk_below BK2.out hb); have m_C11 := Aside0.mk (Kd.C_below C11.out hb); have m_BK3 := Aside0.mk (blk_below BK3.out hb); clear HB; have HB := m_HB; clear m_HB; clear BK1; have BK1 := m_BK1; clear m_BK1; clear C7; have C7 := m_C7; clear m_C7; clear BK2; have BK2 := m_BK2; clear m_BK2; clear C11; have C11 := m_C11; clear m_C11; clear BK3; have BK3 := m_BK3; clear m_BK3; clear hb; (try clear q0 q1 q2); have q0 : w117.cell? ⟨g1, 0, none⟩ = some (.int .u64 31) := (blk_cell BK1.out 0).trans rfl; have q1 : w117.cell? ⟨g1, 1, none⟩ = some (.int .i64 4) := (blk_cell BK1.out 1).trans rfl; have q2 : w117.cell? ⟨g1, 2, none⟩ = some (.int .i64 1) := (blk_cell BK1.out 2).trans rfl)
    | ((with_reducible refine gate_dst (N := 34) rfl ?_); (try (refine gate_guard (by rfl) ?_; dsimp only)); refine Kd.R_lit (Kd.int .i64) _ 3 ?hg (N := 34) ?hd (xs := ([1] : List Int)) (inner := [.int .i64 1]) (ok := fun _ => True) (okp := fun _ => True) ?hr ?hp (fun _ hk => hk) trivial (Below.refl _ _) (Nat.le_refl _) (by simp) ?_; (case hd => rfl); (case hg => rfl); (case hr => first | (go_simp; done) | (go_simp; rfl)); (case hp => exact (Reps.one (show Kd.M (Kd.int .i64) _ _ _ 1 [.int .i64 1] from rfl) (Reps.none _ _))); intro v34 w118 ho hb hg_ hnew_; clear hg_ hnew_; (first | rw [← Ny1.out] at ho | (simp only [Int.reduceToNat] at ho; rw [← Ny1.out] at ho)); obtain ⟨A34, c34, e34⟩ := Kd.R_slice ho; subst e34; have C34 := Aside0.mk (Kd.R_reads' ho).2.2; have L34 := Aside0.mk (Kd.R_reads' ho).2.1; have m_HB := Aside0.mk (below_step HB.out hb); have m_BK1 := Aside0.mk (blk_below BK1.out hb); have m_C7 := Aside0.mk (Kd.C_below C7.out hb); have m_BK2 := Aside0.mk (blk_below BK2.out hb); have m_C11 := Aside0.mk (Kd.C_below C11.out hb); have m_BK3 := Aside0.mk (blk_below BK3.out hb); have m_C33 := Aside0.mk (Kd.C_below C33.out hb); clear HB; have HB := m_HB; clear m_HB; clear BK1; have BK1 := m_BK1; clear m_BK1; clear C7; have C7 := m_C7; clear m_C7; clear BK2; have BK2 := m_BK2; clear m_BK2; clear C11; have C11 := m_C11; clear m_C11; clear BK3; have BK3 := m_BK3; clear m_BK3; clear C33; have C33 := m_C33; clear m_C33; clear ho hb; (try clear q0 q1 q2); have q0 : w118.cell? ⟨g1, 0, none⟩ = some (.int .u64 31) := (blk_cell BK1.out 0).trans rfl; have q1 : w118.cell? ⟨g1, 1, none⟩ = some (.int .i64 4) := (blk_cell BK1.out 1).trans rfl; have q2 : w118.cell? ⟨g1, 2, none⟩ = some (.int .i64 1) := (blk_cell BK1.out 2).trans rfl)
    | (go_at_call 18; (with_reducible refine (privityref12_Ints.calls 20 A33 c33 y1 A34 c34 y1 true _ C33.out L33.out C34.out L34.out Fi1.out).mono ?_); rintro e w119 ⟨rfl, hd⟩; have hb := drawn_below hd; clear hd; have m_HB := Aside0.mk (below_step HB.out hb); have m_BK1 := Aside0.mk (blk_below BK1.out hb); have m_C7 := Aside0.mk (Kd.C_below C7.out hb); have m_BK2 := Aside0.mk (blk_below BK2.out hb); have m_C11 := Aside0.mk (Kd.C_below C11.out hb); have m_BK3 := Aside0.mk (blk_below BK3.out hb); clear HB; have HB := m_HB; clear m_HB; clear BK1; have BK1 := m_BK1; clear m_BK1; clear C7; have C7 := m_C7; clear m_C7; clear BK2; have BK2 := m_BK2; clear m_BK2; clear C11; have C11 := m_C11; clear m_C11; clear BK3; have BK3 := m_BK3; clear m_BK3; clear hb; (try clear q0 q1 q2); have q0 : w119.cell? ⟨g1, 0, none⟩ = some (.int .u64 31) := (blk_cell BK1.out 0).trans rfl; have q1 : w119.cell? ⟨g1, 1, none⟩ = some (.int .i64 4) := (blk_cell BK1.out 1).trans rfl; have q2 : w119.cell? ⟨g1, 2, none⟩ = some (.int .i64 1) := (blk_cell BK1.out 2).trans rfl)
    | ((with_reducible refine gate_dst (N := 39) rfl ?_); (try (refine gate_guard (by rfl) ?_; dsimp only)); refine Kd.R_lit (Kd.int .i64) _ 3 ?hg (N := 39) ?hd (xs := ([3] : List Int)) (inner := [.int .i64 3]) (ok := fun _ => True) (okp := fun _ => True) ?hr ?hp (fun _ hk => hk) trivial (Below.refl _ _) (Nat.le_refl _) (by simp) ?_; (case hd => rfl); (case hg => rfl); (case hr => first | (go_simp; done) | (go_simp; rfl)); (case hp => exact (Reps.one (show Kd.M (Kd.int .i64) _ _ _ 3 [.int .i64 3] from rfl) (Reps.none _ _))); intro v39 w120 ho hb hg_ hnew_; clear hg_ hnew_; (first | rw [← Ny3.out] at ho | (simp only [Int.reduceToNat] at ho; rw [← Ny3.out] at ho)); obtain ⟨A39, c39, e39⟩ := Kd.R_slice ho; subst e39; have C39 := Aside0.mk (Kd.R_reads' ho).2.2; have L39 := Aside0.mk (Kd.R_reads' ho).2.1; have m_HB := Aside0.mk (below_step HB.out hb); have m_BK1 := Aside0.mk (blk_below BK1.out hb); have m_C7 := Aside0.mk (Kd.C_below C7.out hb); have m_BK2 := Aside0.mk (blk_below BK2.out hb); have m_C11 := Aside0.mk (Kd.C_below C11.out hb); have m_BK3 := Aside0.mk (blk_below BK3.out hb); clear HB; have HB := m_HB; clear m_HB; clear BK1; have BK1 := m_BK1; clear m_BK1; clear C7; have C7 := m_C7; clear m_C7; clear BK2; have BK2 := m_BK2; clear m_BK2; clear C11; have C11 := m_C11; clear m_C11; clear BK3; have BK3 := m_BK3; clear m_BK3; clear ho hb; (try clear q0 q1 q2); have q0 : w120.cell? ⟨g1, 0, none⟩ = some (.int .u64 31) := (blk_cell BK1.out 0).trans rfl; have q1 : w120.cell? ⟨g1, 1, none⟩ = some (.int .i64 4) := (blk_cell BK1.out 1).trans rfl; have q2 : w120.cell? ⟨g1, 2, none⟩ = some (.int .i64 1) := (blk_cell BK1.out 2).trans rfl)
    | (go_at_call 17; (with_reducible refine (params_HonestParties.calls 31 4 1 A39 c39 y3 y124 _ C39.out L39.out Fh.out).mono ?_); rintro e w121 ⟨v40, rfl, ho, hb⟩; obtain ⟨A40, c40, e40⟩ := Kd.R_slice ho; subst e40; have C40 := Aside0.mk (Kd.R_reads' ho).2.2; have L40 := Aside0.mk (Kd.R_reads' ho).2.1; clear ho; have m_HB := Aside0.mk (below_step HB.out hb); have m_BK1 := Aside0.mk (blk_below BK1.out hb); have m_C7 := Aside0.mk (Kd.C_below C7.out hb); have m_BK2 := Aside0.mk (blk_below BK2.out hb); have m_C11 := Aside0.mk (Kd.C_below C11.out hb); have m_BK3 := Aside0.mk (blk_below BK3.out hb); clear HB; have HB := m_HB; clear m_HB; clear BK1; have BK1 := m_BK1; clear m_BK1; clear C7; have C7 := m_C7; clear m_C7; clear BK2; have BK2 := m_BK2; clear m_BK2; clear C11; have C11 := m_C11; clear m_C11; clear BK3; have BK3 := m_BK3; clear m_BK3; clear hb; (try clear q0 q1 q2); have q0 : w121.cell? ⟨g1, 0, none⟩ = some (.int .u64 31) := (blk_cell BK1.out 0).trans rfl; have q1 : w121.cell? ⟨g1, 1, none⟩ = some (.int .i64 4) := (blk_cell BK1.out 1).trans rfl; have q2 : w121.cell? ⟨g1, 2, none⟩ = some (.int .i64 1) := (blk_cell BK1.out 2).trans rfl)
    | ((with_reducible refine gate_dst (N := 41) rfl ?_); (try (refine gate_guard (by rfl) ?_; dsimp only)); refine Kd.R_lit (Kd.int .i64) _ 3 ?hg (N := 41) ?hd (xs := ([1, 2, 4] : List Int)) (inner := [.int .i64 1, .int .i64 2, .int .i64 4]) (ok := fun _ => True) (okp := fun _ => True) ?hr ?hp (fun _ hk => hk) trivial (Below.refl _ _) (Nat.le_refl _) (by simp) ?_; (case hd => rfl); (case hg => rfl); (case hr => first | (go_simp; done) | (go_simp; rfl)); (case hp => exact (Reps.one (show Kd.M (Kd.int .i64) _ _ _ 1 [.int .i64 1] from rfl) (Reps.one (show Kd.M (Kd.int .i64) _ _ _ 2 [.int .i64 2] from rfl) (Reps.one (show Kd.M (Kd.int .i64) _ _ _ 4 [.int .i64 4] from rfl) (Reps.none _ _))))); intro v41 w122 ho hb hg_ hnew_; clear hg_ hnew_; (first | rw [← Ny124.out] at ho | (simp only [Int.reduceToNat] at ho; rw [← Ny124.out] at ho)); obtain ⟨A41, c41, e41⟩ := Kd.R_slice ho; subst e41; have C41 := Aside0.mk (Kd.R_reads' ho).2.2; have L41 := Aside0.mk (Kd.R_reads' ho).2.1; have m_HB := Aside0.mk (below_step HB.out hb); have m_BK1 := Aside0.mk (blk_below BK1.out hb); have m_C7 := Aside0.mk (Kd.C_below C7.out hb); have m_BK2 := Aside0.mk (blk_below BK2.out hb); have m_C11 := Aside0.mk (Kd.C_below C11.out hb); have m_BK3 := Aside0.mk (blk_below BK3.out hb); have m_C40 := Aside0.mk (Kd.C_below C40.out hb); clear HB; have HB := m_HB; clear m_HB; clear BK1; have BK1 := m_BK1; clear m_BK1; clear C7; have C7 := m_C7; clear m_C7; clear BK2; have BK2 := m_BK2; clear m_BK2; clear C11; have C11 := m_C11; clear m_C11; clear BK3; have BK3 := m_BK3; clear m_BK3; clear C40; have C40 := m_C40; clear m_C40; clear ho hb; (try clear q0 q1 q2); have q0 : w122.cell? ⟨g1, 0, none⟩ = some (.int .u64 31) := (blk_cell BK1.out 0).trans rfl; have q1 : w122.cell? ⟨g1, 1, none⟩ = some (.int .i64 4) := (blk_cell BK1.out 1).trans rfl; have q2 : w122.cell? ⟨g1, 2, none⟩ = some (.int .i64 1) := (blk_cell BK1.out 2).trans rfl)
    | (go_at_call 18; (with_reducible refine (privityref12_Ints.calls 20 A40 c40 y124 A41 c41 y124 true _ C40.out L40.out C41.out L41.out Fi2.out).mono ?_); rintro e w123 ⟨rfl, hd⟩; have hb := drawn_below hd; clear hd; have m_HB := Aside0.mk (below_step HB.out hb); have m_BK1 := Aside0.mk (blk_below BK1.out hb); have m_C7 := Aside0.mk (Kd.C_below C7.out hb); have m_BK2 := Aside0.mk (blk_below BK2.out hb); have m_C11 := Aside0.mk (Kd.C_below C11.out hb); have m_BK3 := Aside0.mk (blk_below BK3.out hb); clear HB; have HB := m_HB; clear m_HB; clear BK1; have BK1 := m_BK1; clear m_BK1; clear C7; have C7 := m_C7; clear m_C7; clear BK2; have BK2 := m_BK2; clear m_BK2; clear C11; have C11 := m_C11; clear m_C11; clear BK3; have BK3 := m_BK3; clear m_BK3; clear hb; (try clear q0 q1 q2); have q0 : w123.cell? ⟨g1, 0, none⟩ = some (.int .u64 31) := (blk_cell BK1.out 0).trans rfl; have q1 : w123.cell? ⟨g1, 1, none⟩ = some (.int .i64 4) := (blk_cell BK1.out 1).trans rfl; have q2 : w123.cell? ⟨g1, 2, none⟩ = some (.int .i64 1) := (blk_cell BK1.out 2).trans rfl)
    | ((with_reducible refine gate_dst (N := 46) rfl ?_); (try (refine gate_guard (by rfl) ?_; dsimp only)); refine Kd.R_lit (Kd.int .i64) _ 3 ?hg (N := 46) ?hd (xs := ([3] : List Int)) (inner := [.int .i64 3]) (ok := fun _ => True) (okp := fun _ => True) ?hr ?hp (fun _ hk => hk) trivial (Below.refl _ _) (Nat.le_refl _) (by simp) ?_; (case hd => rfl); (case hg => rfl); (case hr => first | (go_simp; done) | (go_simp; rfl)); (case hp => exact (Reps.one (show Kd.M (Kd.int .i64) _ _ _ 3 [.int .i64 3] from rfl) (Reps.none _ _))); intro v46 w124 ho hb hg_ hnew_; clear hg_ hnew_; (first | rw [← Ny3.out] at ho | (simp only [Int.reduceToNat] at ho; rw [← Ny3.out] at ho)); obtain ⟨A46, c46, e46⟩ := Kd.R_slice ho; subst e46; have C46 := Aside0.mk (Kd.R_reads' ho).2.2; have L46 := Aside0.mk (Kd.R_reads' ho).2.1; have m_HB := Aside0.mk (below_step HB.out hb); have m_BK1 := Aside0.mk (blk_below BK1.out hb); have m_C7 := Aside0.mk (Kd.C_below C7.out hb); have m_BK2 := Aside0.mk (blk_below BK2.out hb); have m_C11 := Aside0.mk (Kd.C_below C11.out hb); have m_BK3 := Aside0.mk (blk_below BK3.out hb); clear HB; have HB := m_HB; clear m_HB; clear BK1; have BK1 := m_BK1; clear m_BK1; clear C7; have C7 := m_C7; clear m_C7; clear BK2; have BK2 := m_BK2; clear m_BK2; clear C11; have C11 := m_C11; clear m_C11; clear BK3; have BK3 := m_BK3; clear m_BK3; clear ho hb; (try clear q0 q1 q2); have q0 : w124.cell? ⟨g1, 0, none⟩ = some (.int .u64 31) := (blk_cell BK1.out 0).trans rfl; have q1 : w124.cell? ⟨g1, 1, none⟩ = some (.int .i64 4) := (blk_cell BK1.out 1).trans rfl; have q2 : w124.cell? ⟨g1, 2, none⟩ = some (.int .i64 1) := (blk_cell BK1.out 2).trans rfl)
    | (go_at_call 23; (with_reducible refine (params_VanishingPolynomial.calls 40 31 4 1 A46 c46 y3 y110 _ C46.out L46.out Fp.out).mono ?_); rintro e w125 ⟨v47, rfl, ho, hb⟩; obtain ⟨A47, c47, e47⟩ := Kd.R_slice ho; subst e47; have C47 := Aside0.mk (Kd.R_reads' ho).2.2; have L47 := Aside0.mk (Kd.R_reads' ho).2.1; clear ho; have m_HB := Aside0.mk (below_step HB.out hb); have m_BK1 := Aside0.mk (blk_below BK1.out hb); have m_C7 := Aside0.mk (Kd.C_below C7.out hb); have m_BK2 := Aside0.mk (blk_below BK2.out hb); have m_C11 := Aside0.mk (Kd.C_below C11.out hb); have m_BK3 := Aside0.mk (blk_below BK3.out hb); clear HB; have HB := m_HB; clear m_HB; clear BK1; have BK1 := m_BK1; clear m_BK1; clear C7; have C7 := m_C7; clear m_C7; clear BK2; have BK2 := m_BK2; clear m_BK2; clear C11; have C11 := m_C11; clear m_C11; clear BK3; have BK3 := m_BK3; clear m_BK3; clear hb; (try clear q0 q1 q2); have q0 : w125.cell? ⟨g1, 0, none⟩ = some (.int .u64 31) := (blk_cell BK1.out 0).trans rfl; have q1 : w125.cell? ⟨g1, 1, none⟩ = some (.int .i64 4) := (blk_cell BK1.out 1).trans rfl; have q2 : w125.cell? ⟨g1, 2, none⟩ = some (.int .i64 1) := (blk_cell BK1.out 2).trans rfl)
    | ((with_reducible refine gate_dst (N := 48) rfl ?_); (try (refine gate_guard (by rfl) ?_; dsimp only)); refine Kd.R_lit (Kd.int .u64) _ 22 ?hg (N := 48) ?hd (xs := ([1, 10] : List Int)) (inner := [.int .u64 1, .int .u64 10]) (ok := fun _ => True) (okp := fun _ => True) ?hr ?hp (fun _ hk => hk) trivial (Below.refl _ _) (Nat.le_refl _) (by simp) ?_; (case hd => rfl); (case hg => rfl); (case hr => first | (go_simp; done) | (go_simp; rfl)); (case hp => exact (Reps.one (show Kd.M (Kd.int .u64) _ _ _ 1 [.int .u64 1] from rfl) (Reps.one (show Kd.M (Kd.int .u64) _ _ _ 10 [.int .u64 10] from rfl) (Reps.none _ _)))); intro v48 w126 ho hb hg_ hnew_; clear hg_ hnew_; (first | rw [← Ny110.out] at ho | (simp only [Int.reduceToNat] at ho; rw [← Ny110.out] at ho)); obtain ⟨A48, c48, e48⟩ := Kd.R_slice ho; subst e48; have C48 := Aside0.mk (Kd.R_reads' ho).2.2; have L48 := Aside0.mk (Kd.R_reads' ho).2.1; have m_HB := Aside0.mk (below_step HB.out hb); have m_BK1 := Aside0.mk (blk_below BK1.out hb); have m_C7 := Aside0.mk (Kd.C_below C7.out hb); have m_BK2 := Aside0.mk (blk_below BK2.out hb); have m_C11 := Aside0.mk (Kd.C_below C11.out hb); have m_BK3 := Aside0.mk (blk_below BK3.out hb); have m_C47 := Aside0.mk (Kd.C_below C47.out hb); clear HB; have HB := m_HB; clear m_HB; clear BK1; have BK1 := m_BK1; clear m_BK1; clear C7; have C7 := m_C7; clear m_C7; clear BK2; have BK2 := m_BK2; clear m_BK2; clear C11; have C11 := m_C11; clear m_C11; clear BK3; have BK3 := m_BK3; clear m_BK3; clear C47; have C47 := m_C47; clear m_C47; clear ho hb; (try clear q0 q1 q2); have q0 : w126.cell? ⟨g1, 0, none⟩ = some (.int .u64 31) := (blk_cell BK1.out 0).trans rfl; have q1 : w126.cell? ⟨g1, 1, none⟩ = some (.int .i64 4) := (blk_cell BK1.out 1).trans rfl; have q2 : w126.cell? ⟨g1, 2, none⟩ = some (.int .i64 1) := (blk_cell BK1.out 2).trans rfl)
    | (go_at_call 22; (with_reducible refine (privityref05_Same.calls 20 A47 c47 y110 A48 c48 y110 true _ C47.out L47.out C48.out L48.out Fs.out).mono ?_); rintro e w127 ⟨rfl, hd⟩; have hb := drawn_below hd; clear hd; have m_HB := Aside0.mk (below_step HB.out hb); have m_BK1 := Aside0.mk (blk_below BK1.out hb); have m_C7 := Aside0.mk (Kd.C_below C7.out hb); have m_BK2 := Aside0.mk (blk_below BK2.out hb); have m_C11 := Aside0.mk (Kd.C_below C11.out hb); have m_BK3 := Aside0.mk (blk_below BK3.out hb); clear HB; have HB := m_HB; clear m_HB; clear BK1; have BK1 := m_BK1; clear m_BK1; clear C7; have C7 := m_C7; clear m_C7; clear BK2; have BK2 := m_BK2; clear m_BK2; clear C11; have C11 := m_C11; clear m_C11; clear BK3; have BK3 := m_BK3; clear m_BK3; clear hb; (try clear q0 q1 q2); have q0 : w127.cell? ⟨g1, 0, none⟩ = some (.int .u64 31) := (blk_cell BK1.out 0).trans rfl; have q1 : w127.cell? ⟨g1, 1, none⟩ = some (.int .i64 4) := (blk_cell BK1.out 1).trans rfl; have q2 : w127.cell? ⟨g1, 2, none⟩ = some (.int .i64 1) := (blk_cell BK1.out 2).trans rfl; (try clear u0 u1 u2 u3 u4 u5); have u0 : w127.cell? ⟨g2, 0, none⟩ = some (.int .u64 31) := (blk_cell BK2.out 0).trans rfl; have u1 : w127.cell? ⟨g2, 1, none⟩ = some (.int .i64 4) := (blk_cell BK2.out 1).trans rfl; have u2 : w127.cell? ⟨g2, 2, none⟩ = some (.int .i64 1) := (blk_cell BK2.out 2).trans rfl; have u3 : w127.cell? ⟨g2, 3, none⟩ = some (.slice none 0 0) := (blk_cell BK2.out 3).trans rfl; have u4 : w127.cell? ⟨g2, 4, none⟩ = some (.slice none 0 0) := (blk_cell BK2.out 4).trans rfl; have u5 : w127.cell? ⟨g2, 5, none⟩ = some (.slice A7 r30.length c7) := (blk_cell BK2.out 5).trans rfl)
    | (go_at_call 14; (with_reducible refine (aw_scn A7 c7 r30 true L7.out Fw.out _ (Hx_below HX.out HB.out) C7.out).mono ?_); rintro e w128 ⟨rfl, hb⟩; have m_HB := Aside0.mk (below_step HB.out hb); have m_BK1 := Aside0.mk (blk_below BK1.out hb); have m_C7 := Aside0.mk (Kd.C_below C7.out hb); have m_BK2 := Aside0.mk (blk_below BK2.out hb); have m_C11 := Aside0.mk (Kd.C_below C11.out hb); have m_BK3 := Aside0.mk (blk_below BK3.out hb); clear HB; have HB := m_HB; clear m_HB; clear BK1; have BK1 := m_BK1; clear m_BK1; clear C7; have C7 := m_C7; clear m_C7; clear BK2; have BK2 := m_BK2; clear m_BK2; clear C11; have C11 := m_C11; clear m_C11; clear BK3; have BK3 := m_BK3; clear m_BK3; clear hb; (try clear q0 q1 q2); have q0 : w128.cell? ⟨g1, 0, none⟩ = some (.int .u64 31) := (blk_cell BK1.out 0).trans rfl; have q1 : w128.cell? ⟨g1, 1, none⟩ = some (.int .i64 4) := (blk_cell BK1.out 1).trans rfl; have q2 : w128.cell? ⟨g1, 2, none⟩ = some (.int .i64 1) := (blk_cell BK1.out 2).trans rfl; (try clear x0 x1 x2 x3 x4 x5); have x0 : w128.cell? ⟨g3, 0, none⟩ = some (.int .u64 31) := (blk_cell BK3.out 0).trans rfl; have x1 : w128.cell? ⟨g3, 1, none⟩ = some (.int .i64 4) := (blk_cell BK3.out 1).trans rfl; have x2 : w128.cell? ⟨g3, 2, none⟩ = some (.int .i64 1) := (blk_cell BK3.out 2).trans rfl; have x3 : w128.cell? ⟨g3, 3, none⟩ = some (.slice none 0 0) := (blk_cell BK3.out 3).trans rfl; have x4 : w128.cell? ⟨g3, 4, none⟩ = some (.slice none 0 0) := (blk_cell BK3.out 4).trans rfl; have x5 : w128.cell? ⟨g3, 5, none⟩ = some (.slice A11 r31.length c11) := (blk_cell BK3.out 5).trans rfl)
    | (go_at_call 14; (with_reducible refine (aw_scn A11 c11 r31 false L11.out Fx.out _ (Hx_below HX.out HB.out) C11.out).mono ?_); rintro e w129 ⟨rfl, hb⟩; have m_HB := Aside0.mk (below_step HB.out hb); have m_BK1 := Aside0.mk (blk_below BK1.out hb); have m_C7 := Aside0.mk (Kd.C_below C7.out hb); have m_BK2 := Aside0.mk (blk_below BK2.out hb); have m_C11 := Aside0.mk (Kd.C_below C11.out hb); have m_BK3 := Aside0.mk (blk_below BK3.out hb); clear HB; have HB := m_HB; clear m_HB; clear BK1; have BK1 := m_BK1; clear m_BK1; clear C7; have C7 := m_C7; clear m_C7; clear BK2; have BK2 := m_BK2; clear m_BK2; clear C11; have C11 := m_C11; clear m_C11; clear BK3; have BK3 := m_BK3; clear m_BK3; clear hb; (try clear q0 q1 q2); have q0 : w129.cell? ⟨g1, 0, none⟩ = some (.int .u64 31) := (blk_cell BK1.out 0).trans rfl; have q1 : w129.cell? ⟨g1, 1, none⟩ = some (.int .i64 4) := (blk_cell BK1.out 1).trans rfl; have q2 : w129.cell? ⟨g1, 2, none⟩ = some (.int .i64 1) := (blk_cell BK1.out 2).trans rfl))
  first | go_ret | ((try simp only [Exit.inBlock, Exit.then]); refine bodyPost_ret (results_tmp rfl _ _ _) rfl ?_)
  exact ⟨rfl, HB.out⟩
def privitylaw12_awake.f : Option Bool := some true
theorem privitylaw12_awake.calls (r : Bool) (w : World) (hx : Hx w) (h : privitylaw12_awake.f = some r) : Calls Tryd.prog 9 #[] w fun e w' => e = .returned (.bool r) ∧ Below w.heap.size w w' := by
  rw [← Option.some.inj h]
  exact awake_walk w hx
end Go.Proofs.YtakaonojfpkhnaaDoor.Hw
end
section
/- Printed by a program of this seat (the kit's printer, with the functions that were proved by hand given to it). What stands here: the functions that the statements reach, as plain functions, and that the Go code computes them. -/
namespace Go.Proofs.YtakaonojfpkhnaaDoor.Pr
open Go.RowKit Go.Proofs.YtakaonojfpkhnaaDoorW.PrintWords Go.Proofs.YtakaonojfpkhnaaDoorW.PrintLast Go.Proofs.YtakaonojfpkhnaaDoorW.PrintMore
attribute [local go_sem] max2_int min2_int max_two min_two max_three min_three max_four min_four   -- for this text's walks alone
set_option linter.unusedVariables false
set_option linter.unusedSimpArgs false

open Go.Proofs.YtakaonojfpkhnaaDoor.Hw
/-! ### privitylaw12_ParamsPartitionParties: function 5 -/
mutual
def privitylaw12_ParamsPartitionParties.j0 : Nat → List Int → List Int → List Int → Bool → Int → Int → Int → Option (Bool)
 | 0,_,_,_,_,_,_,_ => none
 | k + 1,x1,x5,x6,x48,x245000,x245001,x245002 => if x48 = true then (some false) else (privitylaw12_ParamsPartitionParties.l0 k x1 x5 x6 1 x245000 x245001 x245002)
def privitylaw12_ParamsPartitionParties.l0 : Nat → List Int → List Int → List Int → Int → Int → Int → Int → Option (Bool)
 | 0,_,_,_,_,_,_,_ => none
 | k + 1,x1,x5,x6,x7,x245000,x245001,x245002 => if x7 ≤ x245001 then ((privityref12_In.f k x1 x7).bind fun t265 => ((privityref12_In.f k x6 x7).bind fun t266 => (if (t265 == t266) = true then (some false) else ((privityref12_In.f k x1 x7).bind fun t267 => (if t267 = true then ((privityref12_In.f k x5 x7).bind fun t268 => (if t268 = true then (privitylaw12_ParamsPartitionParties.l0 k x1 x5 x6 (wrap64 (x7 + 1)) x245000 x245001 x245002) else (some false))) else (privitylaw12_ParamsPartitionParties.l0 k x1 x5 x6 (wrap64 (x7 + 1)) x245000 x245001 x245002)))))) else (some (decide ((wrap64 (3 * (x6.length : Int))) > (wrap64 (2 * x245001)))))
end
def privitylaw12_ParamsPartitionParties.f (k : Nat) (a0_0 : Int) (a0_1 : Int) (a0_2 : Int) (l1 : List Int) : Option (Bool) := (privitylaw12_awake.f).bind fun t245 => (if t245 = true then ((privityref12_ValidCoalition.f k a0_0 a0_1 a0_2 l1).bind fun t246 => (if t246 = true then ((params_ExtendCoalition.f a0_0 a0_1 a0_2 l1).bind fun t247 => ((params_HonestParties.f a0_0 a0_1 a0_2 l1).bind fun t250 => ((privityref12_ExtendCoalition.f k a0_0 a0_1 a0_2 l1).bind fun t253 => ((privityref12_Ints.f k t247 t253).bind fun t256 => (if t256 = true then ((privityref12_HonestParties.f k a0_0 a0_1 a0_2 l1).bind fun t257 => ((privityref12_Ints.f k t250 t257).bind fun t260 => (if t260 = true then ((params_ExtendCoalition.f a0_0 a0_1 a0_2 t247).bind fun t261 => ((privityref12_Ints.f k t261 t247).bind fun t264 => (if t264 = true then (privitylaw12_ParamsPartitionParties.j0 k l1 t247 t250 ((t247.length : Int) != a0_2) a0_0 a0_1 a0_2) else (privitylaw12_ParamsPartitionParties.j0 k l1 t247 t250 true a0_0 a0_1 a0_2)))) else (privitylaw12_ParamsPartitionParties.j0 k l1 t247 t250 true a0_0 a0_1 a0_2)))) else (privitylaw12_ParamsPartitionParties.j0 k l1 t247 t250 true a0_0 a0_1 a0_2)))))) else (some true))) else (some false))
set_option maxHeartbeats 8000000 in
set_option maxRecDepth 100000 in
theorem privitylaw12_ParamsPartitionParties.calls (k : Nat) (a0_0 : Int) (a0_1 : Int) (a0_2 : Int) (A1 : Option Addr) (c1 : Nat) (l1 : List Int) (r : Bool) (w : World) (hr1 : Kd.C (Kd.int .i64) w A1 l1.length l1) (hc1 : l1.length ≤ c1) (hr1_ : r = true) (hx_ : Hx w) (h : privitylaw12_ParamsPartitionParties.f k a0_0 a0_1 a0_2 l1 = some r) :
  Calls Tryd.prog 5 #[.agg #[.int .u64 a0_0,.int .i64 a0_1,.int .i64 a0_2],.slice A1 l1.length c1] w fun e w' => e = .returned (.bool r) ∧ Below w.heap.size w w' := by
 have HX_ := Aside0.mk hx_
 clear hx_
 have HRT_ := Aside0.mk hr1_
 clear hr1_
 have hu24 := Tryd.underlying24
 have HR1 := Aside0.mk hr1
 have HC1 := Aside0.mk hc1
 clear hr1 hc1
 have HB := Aside0.mk (Below.refl w.heap.size w)
 have H : ((privitylaw12_awake.f).bind fun t245 => (if t245 = true then ((privityref12_ValidCoalition.f k a0_0 a0_1 a0_2 l1).bind fun t246 => (if t246 = true then ((params_ExtendCoalition.f a0_0 a0_1 a0_2 l1).bind fun t247 => ((params_HonestParties.f a0_0 a0_1 a0_2 l1).bind fun t250 => ((privityref12_ExtendCoalition.f k a0_0 a0_1 a0_2 l1).bind fun t253 => ((privityref12_Ints.f k t247 t253).bind fun t256 => (if t256 = true then ((privityref12_HonestParties.f k a0_0 a0_1 a0_2 l1).bind fun t257 => ((privityref12_Ints.f k t250 t257).bind fun t260 => (if t260 = true then ((params_ExtendCoalition.f a0_0 a0_1 a0_2 t247).bind fun t261 => ((privityref12_Ints.f k t261 t247).bind fun t264 => (if t264 = true then (privitylaw12_ParamsPartitionParties.j0 k l1 t247 t250 ((t247.length : Int) != a0_2) a0_0 a0_1 a0_2) else (privitylaw12_ParamsPartitionParties.j0 k l1 t247 t250 true a0_0 a0_1 a0_2)))) else (privitylaw12_ParamsPartitionParties.j0 k l1 t247 t250 true a0_0 a0_1 a0_2)))) else (privitylaw12_ParamsPartitionParties.j0 k l1 t247 t250 true a0_0 a0_1 a0_2)))))) else (some true))) else (some false))) = some r := h
 clear h
 replace H := Option.bind_eq_some_iff.mp H
 obtain ⟨t245,A30,H⟩ := H
 replace H : (if t245 = true then ((privityref12_ValidCoalition.f k a0_0 a0_1 a0_2 l1).bind fun t246 => (if t246 = true then ((params_ExtendCoalition.f a0_0 a0_1 a0_2 l1).bind fun t247 => ((params_HonestParties.f a0_0 a0_1 a0_2 l1).bind fun t250 => ((privityref12_ExtendCoalition.f k a0_0 a0_1 a0_2 l1).bind fun t253 => ((privityref12_Ints.f k t247 t253).bind fun t256 => (if t256 = true then ((privityref12_HonestParties.f k a0_0 a0_1 a0_2 l1).bind fun t257 => ((privityref12_Ints.f k t250 t257).bind fun t260 => (if t260 = true then ((params_ExtendCoalition.f a0_0 a0_1 a0_2 t247).bind fun t261 => ((privityref12_Ints.f k t261 t247).bind fun t264 => (if t264 = true then (privitylaw12_ParamsPartitionParties.j0 k l1 t247 t250 ((t247.length : Int) != a0_2) a0_0 a0_1 a0_2) else (privitylaw12_ParamsPartitionParties.j0 k l1 t247 t250 true a0_0 a0_1 a0_2)))) else (privitylaw12_ParamsPartitionParties.j0 k l1 t247 t250 true a0_0 a0_1 a0_2)))) else (privitylaw12_ParamsPartitionParties.j0 k l1 t247 t250 true a0_0 a0_1 a0_2)))))) else (some true))) else (some false)) = some r := H
 have A3 := Aside0.mk A30
 clear A30
 by_cases c4 : t245 = true
 ·subst c4
  have H1 : ((privityref12_ValidCoalition.f k a0_0 a0_1 a0_2 l1).bind fun t246 => (if t246 = true then ((params_ExtendCoalition.f a0_0 a0_1 a0_2 l1).bind fun t247 => ((params_HonestParties.f a0_0 a0_1 a0_2 l1).bind fun t250 => ((privityref12_ExtendCoalition.f k a0_0 a0_1 a0_2 l1).bind fun t253 => ((privityref12_Ints.f k t247 t253).bind fun t256 => (if t256 = true then ((privityref12_HonestParties.f k a0_0 a0_1 a0_2 l1).bind fun t257 => ((privityref12_Ints.f k t250 t257).bind fun t260 => (if t260 = true then ((params_ExtendCoalition.f a0_0 a0_1 a0_2 t247).bind fun t261 => ((privityref12_Ints.f k t261 t247).bind fun t264 => (if t264 = true then (privitylaw12_ParamsPartitionParties.j0 k l1 t247 t250 ((t247.length : Int) != a0_2) a0_0 a0_1 a0_2) else (privitylaw12_ParamsPartitionParties.j0 k l1 t247 t250 true a0_0 a0_1 a0_2)))) else (privitylaw12_ParamsPartitionParties.j0 k l1 t247 t250 true a0_0 a0_1 a0_2)))) else (privitylaw12_ParamsPartitionParties.j0 k l1 t247 t250 true a0_0 a0_1 a0_2)))))) else (some true))) = some r := by rw [if_pos rfl] at H;exact H
  clear H
  have H := H1
  clear H1
  replace H := Option.bind_eq_some_iff.mp H
  obtain ⟨t246,A50,H⟩ := H
  replace H : (if t246 = true then ((params_ExtendCoalition.f a0_0 a0_1 a0_2 l1).bind fun t247 => ((params_HonestParties.f a0_0 a0_1 a0_2 l1).bind fun t250 => ((privityref12_ExtendCoalition.f k a0_0 a0_1 a0_2 l1).bind fun t253 => ((privityref12_Ints.f k t247 t253).bind fun t256 => (if t256 = true then ((privityref12_HonestParties.f k a0_0 a0_1 a0_2 l1).bind fun t257 => ((privityref12_Ints.f k t250 t257).bind fun t260 => (if t260 = true then ((params_ExtendCoalition.f a0_0 a0_1 a0_2 t247).bind fun t261 => ((privityref12_Ints.f k t261 t247).bind fun t264 => (if t264 = true then (privitylaw12_ParamsPartitionParties.j0 k l1 t247 t250 ((t247.length : Int) != a0_2) a0_0 a0_1 a0_2) else (privitylaw12_ParamsPartitionParties.j0 k l1 t247 t250 true a0_0 a0_1 a0_2)))) else (privitylaw12_ParamsPartitionParties.j0 k l1 t247 t250 true a0_0 a0_1 a0_2)))) else (privitylaw12_ParamsPartitionParties.j0 k l1 t247 t250 true a0_0 a0_1 a0_2)))))) else (some true)) = some r := H
  have A5 := Aside0.mk A50
  clear A50
  by_cases c6 : t246 = true
  ·subst c6
   have H1 : ((params_ExtendCoalition.f a0_0 a0_1 a0_2 l1).bind fun t247 => ((params_HonestParties.f a0_0 a0_1 a0_2 l1).bind fun t250 => ((privityref12_ExtendCoalition.f k a0_0 a0_1 a0_2 l1).bind fun t253 => ((privityref12_Ints.f k t247 t253).bind fun t256 => (if t256 = true then ((privityref12_HonestParties.f k a0_0 a0_1 a0_2 l1).bind fun t257 => ((privityref12_Ints.f k t250 t257).bind fun t260 => (if t260 = true then ((params_ExtendCoalition.f a0_0 a0_1 a0_2 t247).bind fun t261 => ((privityref12_Ints.f k t261 t247).bind fun t264 => (if t264 = true then (privitylaw12_ParamsPartitionParties.j0 k l1 t247 t250 ((t247.length : Int) != a0_2) a0_0 a0_1 a0_2) else (privitylaw12_ParamsPartitionParties.j0 k l1 t247 t250 true a0_0 a0_1 a0_2)))) else (privitylaw12_ParamsPartitionParties.j0 k l1 t247 t250 true a0_0 a0_1 a0_2)))) else (privitylaw12_ParamsPartitionParties.j0 k l1 t247 t250 true a0_0 a0_1 a0_2)))))) = some r := by rw [if_pos rfl] at H;exact H
   clear H
   have H := H1
   clear H1
   replace H := Option.bind_eq_some_iff.mp H
   obtain ⟨t247,A70,H⟩ := H
   replace H : ((params_HonestParties.f a0_0 a0_1 a0_2 l1).bind fun t250 => ((privityref12_ExtendCoalition.f k a0_0 a0_1 a0_2 l1).bind fun t253 => ((privityref12_Ints.f k t247 t253).bind fun t256 => (if t256 = true then ((privityref12_HonestParties.f k a0_0 a0_1 a0_2 l1).bind fun t257 => ((privityref12_Ints.f k t250 t257).bind fun t260 => (if t260 = true then ((params_ExtendCoalition.f a0_0 a0_1 a0_2 t247).bind fun t261 => ((privityref12_Ints.f k t261 t247).bind fun t264 => (if t264 = true then (privitylaw12_ParamsPartitionParties.j0 k l1 t247 t250 ((t247.length : Int) != a0_2) a0_0 a0_1 a0_2) else (privitylaw12_ParamsPartitionParties.j0 k l1 t247 t250 true a0_0 a0_1 a0_2)))) else (privitylaw12_ParamsPartitionParties.j0 k l1 t247 t250 true a0_0 a0_1 a0_2)))) else (privitylaw12_ParamsPartitionParties.j0 k l1 t247 t250 true a0_0 a0_1 a0_2))))) = some r := H
   have A7 := Aside0.mk A70
   clear A70
   replace H := Option.bind_eq_some_iff.mp H
   obtain ⟨t250,A80,H⟩ := H
   replace H : ((privityref12_ExtendCoalition.f k a0_0 a0_1 a0_2 l1).bind fun t253 => ((privityref12_Ints.f k t247 t253).bind fun t256 => (if t256 = true then ((privityref12_HonestParties.f k a0_0 a0_1 a0_2 l1).bind fun t257 => ((privityref12_Ints.f k t250 t257).bind fun t260 => (if t260 = true then ((params_ExtendCoalition.f a0_0 a0_1 a0_2 t247).bind fun t261 => ((privityref12_Ints.f k t261 t247).bind fun t264 => (if t264 = true then (privitylaw12_ParamsPartitionParties.j0 k l1 t247 t250 ((t247.length : Int) != a0_2) a0_0 a0_1 a0_2) else (privitylaw12_ParamsPartitionParties.j0 k l1 t247 t250 true a0_0 a0_1 a0_2)))) else (privitylaw12_ParamsPartitionParties.j0 k l1 t247 t250 true a0_0 a0_1 a0_2)))) else (privitylaw12_ParamsPartitionParties.j0 k l1 t247 t250 true a0_0 a0_1 a0_2)))) = some r := H
   have A8 := Aside0.mk A80
   clear A80
   have HC9 := Aside0.mk H
   clear H
   go_enter Tryd.func5,Tryd.ntmps5
   go_upto_region 7 with (first|((with_reducible refine gate_dst (N := 2) rfl ?_);(try (refine gate_guard (by rfl) ?_;dsimp only));refine box_event ?hg (N := 2) ?hd (cs := #[.int .u64 a0_0,.int .i64 a0_1,.int .i64 a0_2]) (t := 24) ?hr ?_;(case hd => rfl);(case hg => rfl);(case hr => first|(go_simp;done)|(go_simp;rfl));intro gb244 hg w10 hbox hb;have n0_ := Aside0.mk (below_step (by repeat (first|(with_reducible first|exact HB.out|apply below_alloc|apply pw_below_drewN|apply below_drew1)|exact HB.out)) hb);have n1_ := Aside0.mk (hbox);have n2_ := Aside0.mk ((by rw [hg];exact (below_size (by repeat (first|(with_reducible first|exact HB.out|apply below_alloc|apply pw_below_drewN|apply below_drew1)|exact HB.out))) : w.heap.size ≤ gb244));have n3_ := Aside0.mk ((by rw [hg];exact (below_size (by repeat (first|(with_reducible first|exact HB.out|apply below_alloc|apply pw_below_drewN|apply below_drew1)|exact HB.out))) : w.heap.size ≤ gb244));clear HB;have HB := n0_;have BK244 := n1_;have GW244 := n2_;have GE244 := n3_;clear n0_ n1_ n2_ n3_;clear hb hbox hg)|((with_reducible refine gate_callee (f := 9) rfl ?_);refine goesL_ (some 8) rfl rfl Tryd.func9 (by kernel_rfl) rfl #[] rfl (by (try simp only [List.map_toArray,List.map_cons,List.map_nil]);first|done|rfl|(simp only [List.length_drop,List.length_take];rfl)) ?_;(with_reducible refine (privitylaw12_awake.calls  true _ ?sidehx A3.out).mono ?_);(case sidehx => repeat (first|exact HX_.out|exact (Hx_below HX_.out HB.out)|(with_reducible refine Hx_alloc ?_ _)|(with_reducible refine Hx_drewN ?_ _)|(with_reducible refine Hx_drew ?_)));rintro e w11 ⟨rfl,hb⟩;refine ⟨_,rfl,?_⟩;have n0_ := Aside0.mk (blk_below (g := gb244) (o := .cells #[.int .u64 a0_0,.int .i64 a0_1,.int .i64 a0_2] 24 (0,0)) (by (with_reducible repeat (first|refine blk_drewN ?_ _|refine blk_drew ?_|refine blk_alloc ?_ _));exact BK244.out) hb);have n1_ := Aside0.mk (below_step (by repeat (first|(with_reducible first|exact HB.out|apply below_alloc|apply pw_below_drewN|apply below_drew1|refine below_set ?_ GE244.out)|exact HB.out)) hb);clear BK244;clear HB;have BK244 := n0_;have HB := n1_;clear n0_ n1_;(try clear hb);(try clear hb2);(try clear hk);(try clear hi);have hcz12_0 : w11.cell? ⟨gb244,0,none⟩ = some (.int .u64 a0_0) := (blk_cell BK244.out 0).trans rfl;have hcz12_1 : w11.cell? ⟨gb244,1,none⟩ = some (.int .i64 a0_1) := (blk_cell BK244.out 1).trans rfl;have hcz12_2 : w11.cell? ⟨gb244,2,none⟩ = some (.int .i64 a0_2) := (blk_cell BK244.out 2).trans rfl;have hfz12_0 := blk_frozen BK244.out 0;have hfz12_1 := blk_frozen BK244.out 1;have hfz12_2 := blk_frozen BK244.out 2)|((with_reducible refine gate_callee (f := 13) rfl ?_);refine goesL_ (some 12) rfl rfl Tryd.func13 (by kernel_rfl) rfl #[.agg #[.int .u64 a0_0,.int .i64 a0_1,.int .i64 a0_2],.slice A1 l1.length c1] rfl (by (try simp only [List.map_toArray,List.map_cons,List.map_nil]);first|done|rfl|(simp only [List.length_drop,List.length_take];rfl)) ?_;(with_reducible refine (privityref12_ValidCoalition.calls k a0_0 a0_1 a0_2 _ _ l1 true _ ?side1 ?side2 A5.out).mono ?_);(case side1 => repeat (first|exact (Kd.C_below HR1.out HB.out)|(with_reducible refine Kd.C_alloc ?_ _)|(with_reducible refine Kd.C_drewN ?_ _)|(with_reducible refine Kd.C_drew ?_)));(case side2 => exact HC1.out);rintro e w13 ⟨rfl,hb⟩;refine ⟨_,rfl,?_⟩;have n0_ := Aside0.mk (blk_below (g := gb244) (o := .cells #[.int .u64 a0_0,.int .i64 a0_1,.int .i64 a0_2] 24 (0,0)) (by (with_reducible repeat (first|refine blk_drewN ?_ _|refine blk_drew ?_|refine blk_alloc ?_ _));exact BK244.out) hb);have n1_ := Aside0.mk (below_step (by repeat (first|(with_reducible first|exact HB.out|apply below_alloc|apply pw_below_drewN|apply below_drew1|refine below_set ?_ GE244.out)|exact HB.out)) hb);clear BK244;clear HB;have BK244 := n0_;have HB := n1_;clear n0_ n1_;(try clear hb);(try clear hb2);(try clear hk);(try clear hi);have hcz14_0 : w13.cell? ⟨gb244,0,none⟩ = some (.int .u64 a0_0) := (blk_cell BK244.out 0).trans rfl;have hcz14_1 : w13.cell? ⟨gb244,1,none⟩ = some (.int .i64 a0_1) := (blk_cell BK244.out 1).trans rfl;have hcz14_2 : w13.cell? ⟨gb244,2,none⟩ = some (.int .i64 a0_2) := (blk_cell BK244.out 2).trans rfl;have hfz14_0 := blk_frozen BK244.out 0;have hfz14_1 := blk_frozen BK244.out 1;have hfz14_2 := blk_frozen BK244.out 2)|((with_reducible refine gate_callee (f := 16) rfl ?_);refine goesL_ (some 16) rfl rfl Tryd.func16 (by kernel_rfl) rfl #[.agg #[.int .u64 a0_0,.int .i64 a0_1,.int .i64 a0_2],.slice A1 l1.length c1] rfl (by (try simp only [List.map_toArray,List.map_cons,List.map_nil]);first|done|rfl|(simp only [List.length_drop,List.length_take];rfl)) ?_;(with_reducible refine (params_ExtendCoalition.calls a0_0 a0_1 a0_2 _ _ l1 t247 _ ?side1 ?side2 A7.out).mono ?_);(case side1 => repeat (first|exact (Kd.C_below HR1.out HB.out)|(with_reducible refine Kd.C_alloc ?_ _)|(with_reducible refine Kd.C_drewN ?_ _)|(with_reducible refine Kd.C_drew ?_)));(case side2 => exact HC1.out);rintro e w15 ⟨v248,rfl,ho0,hb⟩;refine ⟨_,rfl,?_⟩;have n0_ := Aside0.mk (Kd.R_lower ho0 (below_size (by repeat (first|(with_reducible first|exact HB.out|apply below_alloc|apply pw_below_drewN|apply below_drew1|refine below_set ?_ GE244.out)|exact HB.out))));have n1_ := Aside0.mk (blk_below (g := gb244) (o := .cells #[.int .u64 a0_0,.int .i64 a0_1,.int .i64 a0_2] 24 (0,0)) (by (with_reducible repeat (first|refine blk_drewN ?_ _|refine blk_drew ?_|refine blk_alloc ?_ _));exact BK244.out) hb);have n2_ := Aside0.mk (below_step (by repeat (first|(with_reducible first|exact HB.out|apply below_alloc|apply pw_below_drewN|apply below_drew1|refine below_set ?_ GE244.out)|exact HB.out)) hb);clear BK244;clear HB;have HO249 := n0_;have BK244 := n1_;have HB := n2_;clear n0_ n1_ n2_;(try clear hb);(try clear hb2);(try clear hk);(try clear hi);(try clear ho0);have hcz16_0 : w15.cell? ⟨gb244,0,none⟩ = some (.int .u64 a0_0) := (blk_cell BK244.out 0).trans rfl;have hcz16_1 : w15.cell? ⟨gb244,1,none⟩ = some (.int .i64 a0_1) := (blk_cell BK244.out 1).trans rfl;have hcz16_2 : w15.cell? ⟨gb244,2,none⟩ = some (.int .i64 a0_2) := (blk_cell BK244.out 2).trans rfl;have hfz16_0 := blk_frozen BK244.out 0;have hfz16_1 := blk_frozen BK244.out 1;have hfz16_2 := blk_frozen BK244.out 2)|((with_reducible refine gate_callee (f := 17) rfl ?_);refine goesL_ (some 19) rfl rfl Tryd.func17 (by kernel_rfl) rfl #[.agg #[.int .u64 a0_0,.int .i64 a0_1,.int .i64 a0_2],.slice A1 l1.length c1] rfl (by (try simp only [List.map_toArray,List.map_cons,List.map_nil]);first|done|rfl|(simp only [List.length_drop,List.length_take];rfl)) ?_;(with_reducible refine (params_HonestParties.calls a0_0 a0_1 a0_2 _ _ l1 t250 _ ?side1 ?side2 A8.out).mono ?_);(case side1 => repeat (first|exact (Kd.C_below HR1.out HB.out)|(with_reducible refine Kd.C_alloc ?_ _)|(with_reducible refine Kd.C_drewN ?_ _)|(with_reducible refine Kd.C_drew ?_)));(case side2 => exact HC1.out);rintro e w17 ⟨v251,rfl,ho0,hb⟩;refine ⟨_,rfl,?_⟩;have n0_ := Aside0.mk (Kd.R_elder' (by (with_reducible repeat (first|apply Kd.R_alloc|apply Kd.R_drewN|apply Kd.R_drew));exact HO249.out) (Kd.R_base ho0) hb);have n1_ := Aside0.mk (Kd.R_lower (Kd.R_new' ho0 (Kd.R_lt (by (with_reducible repeat (first|apply Kd.R_alloc|apply Kd.R_drewN|apply Kd.R_drew));exact HO249.out))) (below_size (by repeat (first|(with_reducible first|exact HB.out|apply below_alloc|apply pw_below_drewN|apply below_drew1|refine below_set ?_ GE244.out)|exact HB.out))));have n2_ := Aside0.mk (blk_below (g := gb244) (o := .cells #[.int .u64 a0_0,.int .i64 a0_1,.int .i64 a0_2] 24 (0,0)) (by (with_reducible repeat (first|refine blk_drewN ?_ _|refine blk_drew ?_|refine blk_alloc ?_ _));exact BK244.out) hb);have n3_ := Aside0.mk (below_step (by repeat (first|(with_reducible first|exact HB.out|apply below_alloc|apply pw_below_drewN|apply below_drew1|refine below_set ?_ GE244.out)|exact HB.out)) hb);clear HO249;clear BK244;clear HB;have HO249 := n0_;have HO252 := n1_;have BK244 := n2_;have HB := n3_;clear n0_ n1_ n2_ n3_;(try clear hb);(try clear hb2);(try clear hk);(try clear hi);(try clear ho0)))
   (try simp only [Act.put,List.setIfInBounds_toArray,List.set_cons_zero,List.set_cons_succ])
   go_cut [48] (fun v48 wc => ∃ (kq : Nat) (x48_8 : Bool),v48 = .bool x48_8 ∧ Aside0 (privitylaw12_ParamsPartitionParties.j0 kq l1 t247 t250 x48_8 a0_0 a0_1 a0_2 = some r) ∧ Aside0 (kq ≤ k) ∧ Aside0 (Kd.R (Kd.int .i64) 3 wc w.heap.size (fun k_ => some k_ ≠ (v251 : Value).ownBlock) v248 t247) ∧ Aside0 (Kd.R (Kd.int .i64) 3 wc w.heap.size (fun k_ => some k_ ≠ (v248 : Value).ownBlock) v251 t250) ∧ Aside0 (wc.heap[gb244]? = some (.cells #[.int .u64 a0_0,.int .i64 a0_1,.int .i64 a0_2] 24 (0,0))) ∧ Aside0 (Below w.heap.size w wc))
   case first =>
    have H := HC9.out
    clear HC9
    replace H := Option.bind_eq_some_iff.mp H
    obtain ⟨t253,A180,H⟩ := H
    replace H : ((privityref12_Ints.f k t247 t253).bind fun t256 => (if t256 = true then ((privityref12_HonestParties.f k a0_0 a0_1 a0_2 l1).bind fun t257 => ((privityref12_Ints.f k t250 t257).bind fun t260 => (if t260 = true then ((params_ExtendCoalition.f a0_0 a0_1 a0_2 t247).bind fun t261 => ((privityref12_Ints.f k t261 t247).bind fun t264 => (if t264 = true then (privitylaw12_ParamsPartitionParties.j0 k l1 t247 t250 ((t247.length : Int) != a0_2) a0_0 a0_1 a0_2) else (privitylaw12_ParamsPartitionParties.j0 k l1 t247 t250 true a0_0 a0_1 a0_2)))) else (privitylaw12_ParamsPartitionParties.j0 k l1 t247 t250 true a0_0 a0_1 a0_2)))) else (privitylaw12_ParamsPartitionParties.j0 k l1 t247 t250 true a0_0 a0_1 a0_2))) = some r := H
    have A18 := Aside0.mk A180
    clear A180
    replace H := Option.bind_eq_some_iff.mp H
    obtain ⟨t256,A190,H⟩ := H
    replace H : (if t256 = true then ((privityref12_HonestParties.f k a0_0 a0_1 a0_2 l1).bind fun t257 => ((privityref12_Ints.f k t250 t257).bind fun t260 => (if t260 = true then ((params_ExtendCoalition.f a0_0 a0_1 a0_2 t247).bind fun t261 => ((privityref12_Ints.f k t261 t247).bind fun t264 => (if t264 = true then (privitylaw12_ParamsPartitionParties.j0 k l1 t247 t250 ((t247.length : Int) != a0_2) a0_0 a0_1 a0_2) else (privitylaw12_ParamsPartitionParties.j0 k l1 t247 t250 true a0_0 a0_1 a0_2)))) else (privitylaw12_ParamsPartitionParties.j0 k l1 t247 t250 true a0_0 a0_1 a0_2)))) else (privitylaw12_ParamsPartitionParties.j0 k l1 t247 t250 true a0_0 a0_1 a0_2)) = some r := H
    have A19 := Aside0.mk A190
    clear A190
    by_cases c20 : t256 = true
    ·subst c20
     have H1 : ((privityref12_HonestParties.f k a0_0 a0_1 a0_2 l1).bind fun t257 => ((privityref12_Ints.f k t250 t257).bind fun t260 => (if t260 = true then ((params_ExtendCoalition.f a0_0 a0_1 a0_2 t247).bind fun t261 => ((privityref12_Ints.f k t261 t247).bind fun t264 => (if t264 = true then (privitylaw12_ParamsPartitionParties.j0 k l1 t247 t250 ((t247.length : Int) != a0_2) a0_0 a0_1 a0_2) else (privitylaw12_ParamsPartitionParties.j0 k l1 t247 t250 true a0_0 a0_1 a0_2)))) else (privitylaw12_ParamsPartitionParties.j0 k l1 t247 t250 true a0_0 a0_1 a0_2)))) = some r := by rw [if_pos rfl] at H;exact H
     clear H
     have H := H1
     clear H1
     replace H := Option.bind_eq_some_iff.mp H
     obtain ⟨t257,A210,H⟩ := H
     replace H : ((privityref12_Ints.f k t250 t257).bind fun t260 => (if t260 = true then ((params_ExtendCoalition.f a0_0 a0_1 a0_2 t247).bind fun t261 => ((privityref12_Ints.f k t261 t247).bind fun t264 => (if t264 = true then (privitylaw12_ParamsPartitionParties.j0 k l1 t247 t250 ((t247.length : Int) != a0_2) a0_0 a0_1 a0_2) else (privitylaw12_ParamsPartitionParties.j0 k l1 t247 t250 true a0_0 a0_1 a0_2)))) else (privitylaw12_ParamsPartitionParties.j0 k l1 t247 t250 true a0_0 a0_1 a0_2))) = some r := H
     have A21 := Aside0.mk A210
     clear A210
     replace H := Option.bind_eq_some_iff.mp H
     obtain ⟨t260,A220,H⟩ := H
     replace H : (if t260 = true then ((params_ExtendCoalition.f a0_0 a0_1 a0_2 t247).bind fun t261 => ((privityref12_Ints.f k t261 t247).bind fun t264 => (if t264 = true then (privitylaw12_ParamsPartitionParties.j0 k l1 t247 t250 ((t247.length : Int) != a0_2) a0_0 a0_1 a0_2) else (privitylaw12_ParamsPartitionParties.j0 k l1 t247 t250 true a0_0 a0_1 a0_2)))) else (privitylaw12_ParamsPartitionParties.j0 k l1 t247 t250 true a0_0 a0_1 a0_2)) = some r := H
     have A22 := Aside0.mk A220
     clear A220
     by_cases c23 : t260 = true
     ·subst c23
      have H1 : ((params_ExtendCoalition.f a0_0 a0_1 a0_2 t247).bind fun t261 => ((privityref12_Ints.f k t261 t247).bind fun t264 => (if t264 = true then (privitylaw12_ParamsPartitionParties.j0 k l1 t247 t250 ((t247.length : Int) != a0_2) a0_0 a0_1 a0_2) else (privitylaw12_ParamsPartitionParties.j0 k l1 t247 t250 true a0_0 a0_1 a0_2)))) = some r := by rw [if_pos rfl] at H;exact H
      clear H
      have H := H1
      clear H1
      replace H := Option.bind_eq_some_iff.mp H
      obtain ⟨t261,A240,H⟩ := H
      replace H : ((privityref12_Ints.f k t261 t247).bind fun t264 => (if t264 = true then (privitylaw12_ParamsPartitionParties.j0 k l1 t247 t250 ((t247.length : Int) != a0_2) a0_0 a0_1 a0_2) else (privitylaw12_ParamsPartitionParties.j0 k l1 t247 t250 true a0_0 a0_1 a0_2))) = some r := H
      have A24 := Aside0.mk A240
      clear A240
      replace H := Option.bind_eq_some_iff.mp H
      obtain ⟨t264,A250,H⟩ := H
      replace H : (if t264 = true then (privitylaw12_ParamsPartitionParties.j0 k l1 t247 t250 ((t247.length : Int) != a0_2) a0_0 a0_1 a0_2) else (privitylaw12_ParamsPartitionParties.j0 k l1 t247 t250 true a0_0 a0_1 a0_2)) = some r := H
      have A25 := Aside0.mk A250
      clear A250
      by_cases c26 : t264 = true
      ·subst c26
       have H1 : (privitylaw12_ParamsPartitionParties.j0 k l1 t247 t250 ((t247.length : Int) != a0_2) a0_0 a0_1 a0_2) = some r := by rw [if_pos rfl] at H;exact H
       clear H
       have H := H1
       clear H1
       have H' := Aside0.mk H
       clear H
       have hcz27_0 : w17.cell? ⟨gb244,0,none⟩ = some (.int .u64 a0_0) := (blk_cell BK244.out 0).trans rfl
       have hcz27_1 : w17.cell? ⟨gb244,1,none⟩ = some (.int .i64 a0_1) := (blk_cell BK244.out 1).trans rfl
       have hcz27_2 : w17.cell? ⟨gb244,2,none⟩ = some (.int .i64 a0_2) := (blk_cell BK244.out 2).trans rfl
       have hfz27_0 := blk_frozen BK244.out 0
       have hfz27_1 := blk_frozen BK244.out 1
       have hfz27_2 := blk_frozen BK244.out 2
       go_wp2_with (first|((with_reducible refine gate_callee (f := 19) rfl ?_);refine goesL_ (some 23) rfl rfl Tryd.func19 (by kernel_rfl) rfl #[.agg #[.int .u64 a0_0,.int .i64 a0_1,.int .i64 a0_2],.slice A1 l1.length c1] rfl (by (try simp only [List.map_toArray,List.map_cons,List.map_nil]);first|done|rfl|(simp only [List.length_drop,List.length_take];rfl)) ?_;(with_reducible refine (privityref12_ExtendCoalition.calls k a0_0 a0_1 a0_2 _ _ l1 t253 _ ?side1 ?side2 A18.out).mono ?_);(case side1 => repeat (first|exact (Kd.C_below HR1.out HB.out)|(with_reducible refine Kd.C_alloc ?_ _)|(with_reducible refine Kd.C_drewN ?_ _)|(with_reducible refine Kd.C_drew ?_)));(case side2 => exact HC1.out);rintro e w28 ⟨v254,rfl,ho0,hb⟩;refine ⟨_,rfl,?_⟩;have n0_ := Aside0.mk (Kd.R_elder' (by (with_reducible repeat (first|apply Kd.R_alloc|apply Kd.R_drewN|apply Kd.R_drew));exact HO249.out) (Kd.R_base ho0) hb);have n1_ := Aside0.mk (Kd.R_elder' (by (with_reducible repeat (first|apply Kd.R_alloc|apply Kd.R_drewN|apply Kd.R_drew));exact HO252.out) (Kd.R_base ho0) hb);have n2_ := Aside0.mk (Kd.R_lower (Kd.R_new' (Kd.R_new' ho0 (Kd.R_lt (by (with_reducible repeat (first|apply Kd.R_alloc|apply Kd.R_drewN|apply Kd.R_drew));exact HO249.out))) (Kd.R_lt (by (with_reducible repeat (first|apply Kd.R_alloc|apply Kd.R_drewN|apply Kd.R_drew));exact HO252.out))) (below_size (by repeat (first|(with_reducible first|exact HB.out|apply below_alloc|apply pw_below_drewN|apply below_drew1|refine below_set ?_ GE244.out)|exact HB.out))));have n3_ := Aside0.mk (blk_below (g := gb244) (o := .cells #[.int .u64 a0_0,.int .i64 a0_1,.int .i64 a0_2] 24 (0,0)) (by (with_reducible repeat (first|refine blk_drewN ?_ _|refine blk_drew ?_|refine blk_alloc ?_ _));exact BK244.out) hb);have n4_ := Aside0.mk (below_step (by repeat (first|(with_reducible first|exact HB.out|apply below_alloc|apply pw_below_drewN|apply below_drew1|refine below_set ?_ GE244.out)|exact HB.out)) hb);clear HO249;clear HO252;clear BK244;clear HB;have HO249 := n0_;have HO252 := n1_;have HO255 := n2_;have BK244 := n3_;have HB := n4_;clear n0_ n1_ n2_ n3_ n4_;(try clear hb);(try clear hb2);(try clear hk);(try clear hi);(try clear ho0);obtain ⟨Ao29,co29,eo29⟩ := Kd.R_slice HO249.out;subst eo29;obtain ⟨Ao30,co30,eo30⟩ := Kd.R_slice HO255.out;subst eo30)|((with_reducible refine gate_callee (f := 18) rfl ?_);refine goesL_ (some 24) rfl rfl Tryd.func18 (by kernel_rfl) rfl #[.slice Ao29 t247.length co29,.slice Ao30 t253.length co30] rfl (by (try simp only [List.map_toArray,List.map_cons,List.map_nil]);first|done|rfl|(simp only [List.length_drop,List.length_take];rfl)) ?_;(with_reducible refine (privityref12_Ints.calls k _ _ t247 _ _ t253 true _ ?side1 ?side2 ?side3 ?side4 A19.out).mono ?_);(case side1 => repeat (first|exact (Kd.R_reads' HO249.out).2.2|(with_reducible refine Kd.C_alloc ?_ _)|(with_reducible refine Kd.C_drewN ?_ _)|(with_reducible refine Kd.C_drew ?_)));(case side2 => exact (Kd.R_reads' HO249.out).2.1);(case side3 => repeat (first|exact (Kd.R_reads' HO255.out).2.2|(with_reducible refine Kd.C_alloc ?_ _)|(with_reducible refine Kd.C_drewN ?_ _)|(with_reducible refine Kd.C_drew ?_)));(case side4 => exact (Kd.R_reads' HO255.out).2.1);rintro e w' ⟨rfl,⟨nd,rfl⟩⟩;refine ⟨_,rfl,?_⟩;have hcz31_0 : w28.cell? ⟨gb244,0,none⟩ = some (.int .u64 a0_0) := (blk_cell BK244.out 0).trans rfl;have hcz31_1 : w28.cell? ⟨gb244,1,none⟩ = some (.int .i64 a0_1) := (blk_cell BK244.out 1).trans rfl;have hcz31_2 : w28.cell? ⟨gb244,2,none⟩ = some (.int .i64 a0_2) := (blk_cell BK244.out 2).trans rfl;have hfz31_0 := blk_frozen BK244.out 0;have hfz31_1 := blk_frozen BK244.out 1;have hfz31_2 := blk_frozen BK244.out 2)|(go_at_call 20;(with_reducible refine (privityref12_HonestParties.calls k a0_0 a0_1 a0_2 _ _ l1 t257 _ ?side1 ?side2 A21.out).mono ?_);(case side1 => repeat (first|exact (Kd.C_below HR1.out (by repeat (first|(with_reducible first|exact HB.out|apply below_alloc|apply pw_below_drewN|apply below_drew1|refine below_set ?_ GE244.out)|exact HB.out)))|(with_reducible refine Kd.C_alloc ?_ _)|(with_reducible refine Kd.C_drewN ?_ _)|(with_reducible refine Kd.C_drew ?_)));(case side2 => exact HC1.out);rintro e w32 ⟨v258,rfl,ho0,hb⟩;have n0_ := Aside0.mk (Kd.R_elder' (by (with_reducible repeat (first|apply Kd.R_alloc|apply Kd.R_drewN|apply Kd.R_drew));exact HO249.out) (Kd.R_base ho0) hb);have n1_ := Aside0.mk (Kd.R_elder' (by (with_reducible repeat (first|apply Kd.R_alloc|apply Kd.R_drewN|apply Kd.R_drew));exact HO252.out) (Kd.R_base ho0) hb);have n2_ := Aside0.mk (Kd.R_elder' (by (with_reducible repeat (first|apply Kd.R_alloc|apply Kd.R_drewN|apply Kd.R_drew));exact HO255.out) (Kd.R_base ho0) hb);have n3_ := Aside0.mk (Kd.R_lower (Kd.R_new' (Kd.R_new' (Kd.R_new' ho0 (Kd.R_lt (by (with_reducible repeat (first|apply Kd.R_alloc|apply Kd.R_drewN|apply Kd.R_drew));exact HO249.out))) (Kd.R_lt (by (with_reducible repeat (first|apply Kd.R_alloc|apply Kd.R_drewN|apply Kd.R_drew));exact HO252.out))) (Kd.R_lt (by (with_reducible repeat (first|apply Kd.R_alloc|apply Kd.R_drewN|apply Kd.R_drew));exact HO255.out))) (below_size (by repeat (first|(with_reducible first|exact HB.out|apply below_alloc|apply pw_below_drewN|apply below_drew1|refine below_set ?_ GE244.out)|exact HB.out))));have n4_ := Aside0.mk (blk_below (g := gb244) (o := .cells #[.int .u64 a0_0,.int .i64 a0_1,.int .i64 a0_2] 24 (0,0)) (by (with_reducible repeat (first|refine blk_drewN ?_ _|refine blk_drew ?_|refine blk_alloc ?_ _));exact BK244.out) hb);have n5_ := Aside0.mk (below_step (by repeat (first|(with_reducible first|exact HB.out|apply below_alloc|apply pw_below_drewN|apply below_drew1|refine below_set ?_ GE244.out)|exact HB.out)) hb);clear HO249;clear HO252;clear HO255;clear BK244;clear HB;have HO249 := n0_;have HO252 := n1_;have HO255 := n2_;have HO259 := n3_;have BK244 := n4_;have HB := n5_;clear n0_ n1_ n2_ n3_ n4_ n5_;(try clear hb);(try clear hb2);(try clear hk);(try clear hi);(try clear ho0);obtain ⟨Ao33,co33,eo33⟩ := Kd.R_slice HO252.out;subst eo33;obtain ⟨Ao34,co34,eo34⟩ := Kd.R_slice HO259.out;subst eo34)|(go_at_call 18;(with_reducible refine (privityref12_Ints.calls k _ _ t250 _ _ t257 true _ ?side1 ?side2 ?side3 ?side4 A22.out).mono ?_);(case side1 => repeat (first|exact (Kd.R_reads' HO252.out).2.2|(with_reducible refine Kd.C_alloc ?_ _)|(with_reducible refine Kd.C_drewN ?_ _)|(with_reducible refine Kd.C_drew ?_)));(case side2 => exact (Kd.R_reads' HO252.out).2.1);(case side3 => repeat (first|exact (Kd.R_reads' HO259.out).2.2|(with_reducible refine Kd.C_alloc ?_ _)|(with_reducible refine Kd.C_drewN ?_ _)|(with_reducible refine Kd.C_drew ?_)));(case side4 => exact (Kd.R_reads' HO259.out).2.1);rintro e w' ⟨rfl,⟨nd,rfl⟩⟩;have hcz35_0 : w32.cell? ⟨gb244,0,none⟩ = some (.int .u64 a0_0) := (blk_cell BK244.out 0).trans rfl;have hcz35_1 : w32.cell? ⟨gb244,1,none⟩ = some (.int .i64 a0_1) := (blk_cell BK244.out 1).trans rfl;have hcz35_2 : w32.cell? ⟨gb244,2,none⟩ = some (.int .i64 a0_2) := (blk_cell BK244.out 2).trans rfl;have hfz35_0 := blk_frozen BK244.out 0;have hfz35_1 := blk_frozen BK244.out 1;have hfz35_2 := blk_frozen BK244.out 2)|(go_at_call 16;(with_reducible refine (params_ExtendCoalition.calls a0_0 a0_1 a0_2 _ _ t247 t261 _ ?side1 ?side2 A24.out).mono ?_);(case side1 => repeat (first|exact (Kd.R_reads' HO249.out).2.2|(with_reducible refine Kd.C_alloc ?_ _)|(with_reducible refine Kd.C_drewN ?_ _)|(with_reducible refine Kd.C_drew ?_)));(case side2 => exact (Kd.R_reads' HO249.out).2.1);rintro e w36 ⟨v262,rfl,ho0,hb⟩;have n0_ := Aside0.mk (Kd.R_elder' (by (with_reducible repeat (first|apply Kd.R_alloc|apply Kd.R_drewN|apply Kd.R_drew));exact HO249.out) (Kd.R_base ho0) hb);have n1_ := Aside0.mk (Kd.R_elder' (by (with_reducible repeat (first|apply Kd.R_alloc|apply Kd.R_drewN|apply Kd.R_drew));exact HO252.out) (Kd.R_base ho0) hb);have n2_ := Aside0.mk (Kd.R_elder' (by (with_reducible repeat (first|apply Kd.R_alloc|apply Kd.R_drewN|apply Kd.R_drew));exact HO255.out) (Kd.R_base ho0) hb);have n3_ := Aside0.mk (Kd.R_elder' (by (with_reducible repeat (first|apply Kd.R_alloc|apply Kd.R_drewN|apply Kd.R_drew));exact HO259.out) (Kd.R_base ho0) hb);have n4_ := Aside0.mk (Kd.R_lower (Kd.R_new' (Kd.R_new' (Kd.R_new' (Kd.R_new' ho0 (Kd.R_lt (by (with_reducible repeat (first|apply Kd.R_alloc|apply Kd.R_drewN|apply Kd.R_drew));exact HO249.out))) (Kd.R_lt (by (with_reducible repeat (first|apply Kd.R_alloc|apply Kd.R_drewN|apply Kd.R_drew));exact HO252.out))) (Kd.R_lt (by (with_reducible repeat (first|apply Kd.R_alloc|apply Kd.R_drewN|apply Kd.R_drew));exact HO255.out))) (Kd.R_lt (by (with_reducible repeat (first|apply Kd.R_alloc|apply Kd.R_drewN|apply Kd.R_drew));exact HO259.out))) (below_size (by repeat (first|(with_reducible first|exact HB.out|apply below_alloc|apply pw_below_drewN|apply below_drew1|refine below_set ?_ GE244.out)|exact HB.out))));have n5_ := Aside0.mk (blk_below (g := gb244) (o := .cells #[.int .u64 a0_0,.int .i64 a0_1,.int .i64 a0_2] 24 (0,0)) (by (with_reducible repeat (first|refine blk_drewN ?_ _|refine blk_drew ?_|refine blk_alloc ?_ _));exact BK244.out) hb);have n6_ := Aside0.mk (below_step (by repeat (first|(with_reducible first|exact HB.out|apply below_alloc|apply pw_below_drewN|apply below_drew1|refine below_set ?_ GE244.out)|exact HB.out)) hb);clear HO249;clear HO252;clear HO255;clear HO259;clear BK244;clear HB;have HO249 := n0_;have HO252 := n1_;have HO255 := n2_;have HO259 := n3_;have HO263 := n4_;have BK244 := n5_;have HB := n6_;clear n0_ n1_ n2_ n3_ n4_ n5_ n6_;(try clear hb);(try clear hb2);(try clear hk);(try clear hi);(try clear ho0);obtain ⟨Ao37,co37,eo37⟩ := Kd.R_slice HO263.out;subst eo37)|(go_at_call 18;(with_reducible refine (privityref12_Ints.calls k _ _ t261 _ _ t247 true _ ?side1 ?side2 ?side3 ?side4 A25.out).mono ?_);(case side1 => repeat (first|exact (Kd.R_reads' HO263.out).2.2|(with_reducible refine Kd.C_alloc ?_ _)|(with_reducible refine Kd.C_drewN ?_ _)|(with_reducible refine Kd.C_drew ?_)));(case side2 => exact (Kd.R_reads' HO263.out).2.1);(case side3 => repeat (first|exact (Kd.R_reads' HO249.out).2.2|(with_reducible refine Kd.C_alloc ?_ _)|(with_reducible refine Kd.C_drewN ?_ _)|(with_reducible refine Kd.C_drew ?_)));(case side4 => exact (Kd.R_reads' HO249.out).2.1);rintro e w' ⟨rfl,⟨nd,rfl⟩⟩;have hcz38_0 : w36.cell? ⟨gb244,0,none⟩ = some (.int .u64 a0_0) := (blk_cell BK244.out 0).trans rfl;have hcz38_1 : w36.cell? ⟨gb244,1,none⟩ = some (.int .i64 a0_1) := (blk_cell BK244.out 1).trans rfl;have hcz38_2 : w36.cell? ⟨gb244,2,none⟩ = some (.int .i64 a0_2) := (blk_cell BK244.out 2).trans rfl;have hfz38_0 := blk_frozen BK244.out 0;have hfz38_1 := blk_frozen BK244.out 1;have hfz38_2 := blk_frozen BK244.out 2))
       go_meet
       case rel => exact ⟨_,(((t247.length : Int) != a0_2)),(by first|rfl|(simp;done)|(simp [*];done)),H',⟨by first|omega|exact Nat.le_refl _⟩,⟨by (with_reducible repeat (first|apply Kd.R_alloc|apply Kd.R_drewN|apply Kd.R_drew));exact Kd.R_mono HO249.out (fun _ hk => hk.1.1.1.2)⟩,⟨by (with_reducible repeat (first|apply Kd.R_alloc|apply Kd.R_drewN|apply Kd.R_drew));exact Kd.R_mono HO252.out (fun _ hk => hk.1.1.1.2)⟩,⟨by (with_reducible repeat (first|refine blk_drewN ?_ _|refine blk_drew ?_|refine blk_alloc ?_ _));exact BK244.out⟩,⟨by repeat (first|(with_reducible first|exact HB.out|apply below_alloc|apply pw_below_drewN|apply below_drew1|refine below_set ?_ GE244.out)|exact HB.out)⟩⟩
      ·replace c26 := Bool.eq_false_iff.mpr c26
       subst c26
       have H1 : (privitylaw12_ParamsPartitionParties.j0 k l1 t247 t250 true a0_0 a0_1 a0_2) = some r := by rw [if_neg (show ¬ (false = true) by decide)] at H;exact H
       clear H
       have H := H1
       clear H1
       have H' := Aside0.mk H
       clear H
       have hcz39_0 : w17.cell? ⟨gb244,0,none⟩ = some (.int .u64 a0_0) := (blk_cell BK244.out 0).trans rfl
       have hcz39_1 : w17.cell? ⟨gb244,1,none⟩ = some (.int .i64 a0_1) := (blk_cell BK244.out 1).trans rfl
       have hcz39_2 : w17.cell? ⟨gb244,2,none⟩ = some (.int .i64 a0_2) := (blk_cell BK244.out 2).trans rfl
       have hfz39_0 := blk_frozen BK244.out 0
       have hfz39_1 := blk_frozen BK244.out 1
       have hfz39_2 := blk_frozen BK244.out 2
       go_wp2_with (first|((with_reducible refine gate_callee (f := 19) rfl ?_);refine goesL_ (some 23) rfl rfl Tryd.func19 (by kernel_rfl) rfl #[.agg #[.int .u64 a0_0,.int .i64 a0_1,.int .i64 a0_2],.slice A1 l1.length c1] rfl (by (try simp only [List.map_toArray,List.map_cons,List.map_nil]);first|done|rfl|(simp only [List.length_drop,List.length_take];rfl)) ?_;(with_reducible refine (privityref12_ExtendCoalition.calls k a0_0 a0_1 a0_2 _ _ l1 t253 _ ?side1 ?side2 A18.out).mono ?_);(case side1 => repeat (first|exact (Kd.C_below HR1.out HB.out)|(with_reducible refine Kd.C_alloc ?_ _)|(with_reducible refine Kd.C_drewN ?_ _)|(with_reducible refine Kd.C_drew ?_)));(case side2 => exact HC1.out);rintro e w40 ⟨v254,rfl,ho0,hb⟩;refine ⟨_,rfl,?_⟩;have n0_ := Aside0.mk (Kd.R_elder' (by (with_reducible repeat (first|apply Kd.R_alloc|apply Kd.R_drewN|apply Kd.R_drew));exact HO249.out) (Kd.R_base ho0) hb);have n1_ := Aside0.mk (Kd.R_elder' (by (with_reducible repeat (first|apply Kd.R_alloc|apply Kd.R_drewN|apply Kd.R_drew));exact HO252.out) (Kd.R_base ho0) hb);have n2_ := Aside0.mk (Kd.R_lower (Kd.R_new' (Kd.R_new' ho0 (Kd.R_lt (by (with_reducible repeat (first|apply Kd.R_alloc|apply Kd.R_drewN|apply Kd.R_drew));exact HO249.out))) (Kd.R_lt (by (with_reducible repeat (first|apply Kd.R_alloc|apply Kd.R_drewN|apply Kd.R_drew));exact HO252.out))) (below_size (by repeat (first|(with_reducible first|exact HB.out|apply below_alloc|apply pw_below_drewN|apply below_drew1|refine below_set ?_ GE244.out)|exact HB.out))));have n3_ := Aside0.mk (blk_below (g := gb244) (o := .cells #[.int .u64 a0_0,.int .i64 a0_1,.int .i64 a0_2] 24 (0,0)) (by (with_reducible repeat (first|refine blk_drewN ?_ _|refine blk_drew ?_|refine blk_alloc ?_ _));exact BK244.out) hb);have n4_ := Aside0.mk (below_step (by repeat (first|(with_reducible first|exact HB.out|apply below_alloc|apply pw_below_drewN|apply below_drew1|refine below_set ?_ GE244.out)|exact HB.out)) hb);clear HO249;clear HO252;clear BK244;clear HB;have HO249 := n0_;have HO252 := n1_;have HO255 := n2_;have BK244 := n3_;have HB := n4_;clear n0_ n1_ n2_ n3_ n4_;(try clear hb);(try clear hb2);(try clear hk);(try clear hi);(try clear ho0);obtain ⟨Ao41,co41,eo41⟩ := Kd.R_slice HO249.out;subst eo41;obtain ⟨Ao42,co42,eo42⟩ := Kd.R_slice HO255.out;subst eo42)|((with_reducible refine gate_callee (f := 18) rfl ?_);refine goesL_ (some 24) rfl rfl Tryd.func18 (by kernel_rfl) rfl #[.slice Ao41 t247.length co41,.slice Ao42 t253.length co42] rfl (by (try simp only [List.map_toArray,List.map_cons,List.map_nil]);first|done|rfl|(simp only [List.length_drop,List.length_take];rfl)) ?_;(with_reducible refine (privityref12_Ints.calls k _ _ t247 _ _ t253 true _ ?side1 ?side2 ?side3 ?side4 A19.out).mono ?_);(case side1 => repeat (first|exact (Kd.R_reads' HO249.out).2.2|(with_reducible refine Kd.C_alloc ?_ _)|(with_reducible refine Kd.C_drewN ?_ _)|(with_reducible refine Kd.C_drew ?_)));(case side2 => exact (Kd.R_reads' HO249.out).2.1);(case side3 => repeat (first|exact (Kd.R_reads' HO255.out).2.2|(with_reducible refine Kd.C_alloc ?_ _)|(with_reducible refine Kd.C_drewN ?_ _)|(with_reducible refine Kd.C_drew ?_)));(case side4 => exact (Kd.R_reads' HO255.out).2.1);rintro e w' ⟨rfl,⟨nd,rfl⟩⟩;refine ⟨_,rfl,?_⟩;have hcz43_0 : w40.cell? ⟨gb244,0,none⟩ = some (.int .u64 a0_0) := (blk_cell BK244.out 0).trans rfl;have hcz43_1 : w40.cell? ⟨gb244,1,none⟩ = some (.int .i64 a0_1) := (blk_cell BK244.out 1).trans rfl;have hcz43_2 : w40.cell? ⟨gb244,2,none⟩ = some (.int .i64 a0_2) := (blk_cell BK244.out 2).trans rfl;have hfz43_0 := blk_frozen BK244.out 0;have hfz43_1 := blk_frozen BK244.out 1;have hfz43_2 := blk_frozen BK244.out 2)|(go_at_call 20;(with_reducible refine (privityref12_HonestParties.calls k a0_0 a0_1 a0_2 _ _ l1 t257 _ ?side1 ?side2 A21.out).mono ?_);(case side1 => repeat (first|exact (Kd.C_below HR1.out (by repeat (first|(with_reducible first|exact HB.out|apply below_alloc|apply pw_below_drewN|apply below_drew1|refine below_set ?_ GE244.out)|exact HB.out)))|(with_reducible refine Kd.C_alloc ?_ _)|(with_reducible refine Kd.C_drewN ?_ _)|(with_reducible refine Kd.C_drew ?_)));(case side2 => exact HC1.out);rintro e w44 ⟨v258,rfl,ho0,hb⟩;have n0_ := Aside0.mk (Kd.R_elder' (by (with_reducible repeat (first|apply Kd.R_alloc|apply Kd.R_drewN|apply Kd.R_drew));exact HO249.out) (Kd.R_base ho0) hb);have n1_ := Aside0.mk (Kd.R_elder' (by (with_reducible repeat (first|apply Kd.R_alloc|apply Kd.R_drewN|apply Kd.R_drew));exact HO252.out) (Kd.R_base ho0) hb);have n2_ := Aside0.mk (Kd.R_elder' (by (with_reducible repeat (first|apply Kd.R_alloc|apply Kd.R_drewN|apply Kd.R_drew));exact HO255.out) (Kd.R_base ho0) hb);have n3_ := Aside0.mk (Kd.R_lower (Kd.R_new' (Kd.R_new' (Kd.R_new' ho0 (Kd.R_lt (by (with_reducible repeat (first|apply Kd.R_alloc|apply Kd.R_drewN|apply Kd.R_drew));exact HO249.out))) (Kd.R_lt (by (with_reducible repeat (first|apply Kd.R_alloc|apply Kd.R_drewN|apply Kd.R_drew));exact HO252.out))) (Kd.R_lt (by (with_reducible repeat (first|apply Kd.R_alloc|apply Kd.R_drewN|apply Kd.R_drew));exact HO255.out))) (below_size (by repeat (first|(with_reducible first|exact HB.out|apply below_alloc|apply pw_below_drewN|apply below_drew1|refine below_set ?_ GE244.out)|exact HB.out))));have n4_ := Aside0.mk (blk_below (g := gb244) (o := .cells #[.int .u64 a0_0,.int .i64 a0_1,.int .i64 a0_2] 24 (0,0)) (by (with_reducible repeat (first|refine blk_drewN ?_ _|refine blk_drew ?_|refine blk_alloc ?_ _));exact BK244.out) hb);have n5_ := Aside0.mk (below_step (by repeat (first|(with_reducible first|exact HB.out|apply below_alloc|apply pw_below_drewN|apply below_drew1|refine below_set ?_ GE244.out)|exact HB.out)) hb);clear HO249;clear HO252;clear HO255;clear BK244;clear HB;have HO249 := n0_;have HO252 := n1_;have HO255 := n2_;have HO259 := n3_;have BK244 := n4_;have HB := n5_;clear n0_ n1_ n2_ n3_ n4_ n5_;(try clear hb);(try clear hb2);(try clear hk);(try clear hi);(try clear ho0);obtain ⟨Ao45,co45,eo45⟩ := Kd.R_slice HO252.out;subst eo45;obtain ⟨Ao46,co46,eo46⟩ := Kd.R_slice HO259.out;subst eo46)|(go_at_call 18;(with_reducible refine (privityref12_Ints.calls k _ _ t250 _ _ t257 true _ ?side1 ?side2 ?side3 ?side4 A22.out).mono ?_);(case side1 => repeat (first|exact (Kd.R_reads' HO252.out).2.2|(with_reducible refine Kd.C_alloc ?_ _)|(with_reducible refine Kd.C_drewN ?_ _)|(with_reducible refine Kd.C_drew ?_)));(case side2 => exact (Kd.R_reads' HO252.out).2.1);(case side3 => repeat (first|exact (Kd.R_reads' HO259.out).2.2|(with_reducible refine Kd.C_alloc ?_ _)|(with_reducible refine Kd.C_drewN ?_ _)|(with_reducible refine Kd.C_drew ?_)));(case side4 => exact (Kd.R_reads' HO259.out).2.1);rintro e w' ⟨rfl,⟨nd,rfl⟩⟩;have hcz47_0 : w44.cell? ⟨gb244,0,none⟩ = some (.int .u64 a0_0) := (blk_cell BK244.out 0).trans rfl;have hcz47_1 : w44.cell? ⟨gb244,1,none⟩ = some (.int .i64 a0_1) := (blk_cell BK244.out 1).trans rfl;have hcz47_2 : w44.cell? ⟨gb244,2,none⟩ = some (.int .i64 a0_2) := (blk_cell BK244.out 2).trans rfl;have hfz47_0 := blk_frozen BK244.out 0;have hfz47_1 := blk_frozen BK244.out 1;have hfz47_2 := blk_frozen BK244.out 2)|(go_at_call 16;(with_reducible refine (params_ExtendCoalition.calls a0_0 a0_1 a0_2 _ _ t247 t261 _ ?side1 ?side2 A24.out).mono ?_);(case side1 => repeat (first|exact (Kd.R_reads' HO249.out).2.2|(with_reducible refine Kd.C_alloc ?_ _)|(with_reducible refine Kd.C_drewN ?_ _)|(with_reducible refine Kd.C_drew ?_)));(case side2 => exact (Kd.R_reads' HO249.out).2.1);rintro e w48 ⟨v262,rfl,ho0,hb⟩;have n0_ := Aside0.mk (Kd.R_elder' (by (with_reducible repeat (first|apply Kd.R_alloc|apply Kd.R_drewN|apply Kd.R_drew));exact HO249.out) (Kd.R_base ho0) hb);have n1_ := Aside0.mk (Kd.R_elder' (by (with_reducible repeat (first|apply Kd.R_alloc|apply Kd.R_drewN|apply Kd.R_drew));exact HO252.out) (Kd.R_base ho0) hb);have n2_ := Aside0.mk (Kd.R_elder' (by (with_reducible repeat (first|apply Kd.R_alloc|apply Kd.R_drewN|apply Kd.R_drew));exact HO255.out) (Kd.R_base ho0) hb);have n3_ := Aside0.mk (Kd.R_elder' (by (with_reducible repeat (first|apply Kd.R_alloc|apply Kd.R_drewN|apply Kd.R_drew));exact HO259.out) (Kd.R_base ho0) hb);have n4_ := Aside0.mk (Kd.R_lower (Kd.R_new' (Kd.R_new' (Kd.R_new' (Kd.R_new' ho0 (Kd.R_lt (by (with_reducible repeat (first|apply Kd.R_alloc|apply Kd.R_drewN|apply Kd.R_drew));exact HO249.out))) (Kd.R_lt (by (with_reducible repeat (first|apply Kd.R_alloc|apply Kd.R_drewN|apply Kd.R_drew));exact HO252.out))) (Kd.R_lt (by (with_reducible repeat (first|apply Kd.R_alloc|apply Kd.R_drewN|apply Kd.R_drew));exact HO255.out))) (Kd.R_lt (by (with_reducible repeat (first|apply Kd.R_alloc|apply Kd.R_drewN|apply Kd.R_drew));exact HO259.out))) (below_size (by repeat (first|(with_reducible first|exact HB.out|apply below_alloc|apply pw_below_drewN|apply below_drew1|refine below_set ?_ GE244.out)|exact HB.out))));have n5_ := Aside0.mk (blk_below (g := gb244) (o := .cells #[.int .u64 a0_0,.int .i64 a0_1,.int .i64 a0_2] 24 (0,0)) (by (with_reducible repeat (first|refine blk_drewN ?_ _|refine blk_drew ?_|refine blk_alloc ?_ _));exact BK244.out) hb);have n6_ := Aside0.mk (below_step (by repeat (first|(with_reducible first|exact HB.out|apply below_alloc|apply pw_below_drewN|apply below_drew1|refine below_set ?_ GE244.out)|exact HB.out)) hb);clear HO249;clear HO252;clear HO255;clear HO259;clear BK244;clear HB;have HO249 := n0_;have HO252 := n1_;have HO255 := n2_;have HO259 := n3_;have HO263 := n4_;have BK244 := n5_;have HB := n6_;clear n0_ n1_ n2_ n3_ n4_ n5_ n6_;(try clear hb);(try clear hb2);(try clear hk);(try clear hi);(try clear ho0);obtain ⟨Ao49,co49,eo49⟩ := Kd.R_slice HO263.out;subst eo49)|(go_at_call 18;(with_reducible refine (privityref12_Ints.calls k _ _ t261 _ _ t247 false _ ?side1 ?side2 ?side3 ?side4 A25.out).mono ?_);(case side1 => repeat (first|exact (Kd.R_reads' HO263.out).2.2|(with_reducible refine Kd.C_alloc ?_ _)|(with_reducible refine Kd.C_drewN ?_ _)|(with_reducible refine Kd.C_drew ?_)));(case side2 => exact (Kd.R_reads' HO263.out).2.1);(case side3 => repeat (first|exact (Kd.R_reads' HO249.out).2.2|(with_reducible refine Kd.C_alloc ?_ _)|(with_reducible refine Kd.C_drewN ?_ _)|(with_reducible refine Kd.C_drew ?_)));(case side4 => exact (Kd.R_reads' HO249.out).2.1);rintro e w' ⟨rfl,⟨nd,rfl⟩⟩))
       go_meet
       case rel => exact ⟨_,(true),(by first|rfl|(simp;done)|(simp [*];done)),H',⟨by first|omega|exact Nat.le_refl _⟩,⟨by (with_reducible repeat (first|apply Kd.R_alloc|apply Kd.R_drewN|apply Kd.R_drew));exact Kd.R_mono HO249.out (fun _ hk => hk.1.1.1.2)⟩,⟨by (with_reducible repeat (first|apply Kd.R_alloc|apply Kd.R_drewN|apply Kd.R_drew));exact Kd.R_mono HO252.out (fun _ hk => hk.1.1.1.2)⟩,⟨by (with_reducible repeat (first|refine blk_drewN ?_ _|refine blk_drew ?_|refine blk_alloc ?_ _));exact BK244.out⟩,⟨by repeat (first|(with_reducible first|exact HB.out|apply below_alloc|apply pw_below_drewN|apply below_drew1|refine below_set ?_ GE244.out)|exact HB.out)⟩⟩
     ·replace c23 := Bool.eq_false_iff.mpr c23
      subst c23
      have H1 : (privitylaw12_ParamsPartitionParties.j0 k l1 t247 t250 true a0_0 a0_1 a0_2) = some r := by rw [if_neg (show ¬ (false = true) by decide)] at H;exact H
      clear H
      have H := H1
      clear H1
      have H' := Aside0.mk H
      clear H
      have hcz50_0 : w17.cell? ⟨gb244,0,none⟩ = some (.int .u64 a0_0) := (blk_cell BK244.out 0).trans rfl
      have hcz50_1 : w17.cell? ⟨gb244,1,none⟩ = some (.int .i64 a0_1) := (blk_cell BK244.out 1).trans rfl
      have hcz50_2 : w17.cell? ⟨gb244,2,none⟩ = some (.int .i64 a0_2) := (blk_cell BK244.out 2).trans rfl
      have hfz50_0 := blk_frozen BK244.out 0
      have hfz50_1 := blk_frozen BK244.out 1
      have hfz50_2 := blk_frozen BK244.out 2
      go_wp2_with (first|((with_reducible refine gate_callee (f := 19) rfl ?_);refine goesL_ (some 23) rfl rfl Tryd.func19 (by kernel_rfl) rfl #[.agg #[.int .u64 a0_0,.int .i64 a0_1,.int .i64 a0_2],.slice A1 l1.length c1] rfl (by (try simp only [List.map_toArray,List.map_cons,List.map_nil]);first|done|rfl|(simp only [List.length_drop,List.length_take];rfl)) ?_;(with_reducible refine (privityref12_ExtendCoalition.calls k a0_0 a0_1 a0_2 _ _ l1 t253 _ ?side1 ?side2 A18.out).mono ?_);(case side1 => repeat (first|exact (Kd.C_below HR1.out HB.out)|(with_reducible refine Kd.C_alloc ?_ _)|(with_reducible refine Kd.C_drewN ?_ _)|(with_reducible refine Kd.C_drew ?_)));(case side2 => exact HC1.out);rintro e w51 ⟨v254,rfl,ho0,hb⟩;refine ⟨_,rfl,?_⟩;have n0_ := Aside0.mk (Kd.R_elder' (by (with_reducible repeat (first|apply Kd.R_alloc|apply Kd.R_drewN|apply Kd.R_drew));exact HO249.out) (Kd.R_base ho0) hb);have n1_ := Aside0.mk (Kd.R_elder' (by (with_reducible repeat (first|apply Kd.R_alloc|apply Kd.R_drewN|apply Kd.R_drew));exact HO252.out) (Kd.R_base ho0) hb);have n2_ := Aside0.mk (Kd.R_lower (Kd.R_new' (Kd.R_new' ho0 (Kd.R_lt (by (with_reducible repeat (first|apply Kd.R_alloc|apply Kd.R_drewN|apply Kd.R_drew));exact HO249.out))) (Kd.R_lt (by (with_reducible repeat (first|apply Kd.R_alloc|apply Kd.R_drewN|apply Kd.R_drew));exact HO252.out))) (below_size (by repeat (first|(with_reducible first|exact HB.out|apply below_alloc|apply pw_below_drewN|apply below_drew1|refine below_set ?_ GE244.out)|exact HB.out))));have n3_ := Aside0.mk (blk_below (g := gb244) (o := .cells #[.int .u64 a0_0,.int .i64 a0_1,.int .i64 a0_2] 24 (0,0)) (by (with_reducible repeat (first|refine blk_drewN ?_ _|refine blk_drew ?_|refine blk_alloc ?_ _));exact BK244.out) hb);have n4_ := Aside0.mk (below_step (by repeat (first|(with_reducible first|exact HB.out|apply below_alloc|apply pw_below_drewN|apply below_drew1|refine below_set ?_ GE244.out)|exact HB.out)) hb);clear HO249;clear HO252;clear BK244;clear HB;have HO249 := n0_;have HO252 := n1_;have HO255 := n2_;have BK244 := n3_;have HB := n4_;clear n0_ n1_ n2_ n3_ n4_;(try clear hb);(try clear hb2);(try clear hk);(try clear hi);(try clear ho0);obtain ⟨Ao52,co52,eo52⟩ := Kd.R_slice HO249.out;subst eo52;obtain ⟨Ao53,co53,eo53⟩ := Kd.R_slice HO255.out;subst eo53)|((with_reducible refine gate_callee (f := 18) rfl ?_);refine goesL_ (some 24) rfl rfl Tryd.func18 (by kernel_rfl) rfl #[.slice Ao52 t247.length co52,.slice Ao53 t253.length co53] rfl (by (try simp only [List.map_toArray,List.map_cons,List.map_nil]);first|done|rfl|(simp only [List.length_drop,List.length_take];rfl)) ?_;(with_reducible refine (privityref12_Ints.calls k _ _ t247 _ _ t253 true _ ?side1 ?side2 ?side3 ?side4 A19.out).mono ?_);(case side1 => repeat (first|exact (Kd.R_reads' HO249.out).2.2|(with_reducible refine Kd.C_alloc ?_ _)|(with_reducible refine Kd.C_drewN ?_ _)|(with_reducible refine Kd.C_drew ?_)));(case side2 => exact (Kd.R_reads' HO249.out).2.1);(case side3 => repeat (first|exact (Kd.R_reads' HO255.out).2.2|(with_reducible refine Kd.C_alloc ?_ _)|(with_reducible refine Kd.C_drewN ?_ _)|(with_reducible refine Kd.C_drew ?_)));(case side4 => exact (Kd.R_reads' HO255.out).2.1);rintro e w' ⟨rfl,⟨nd,rfl⟩⟩;refine ⟨_,rfl,?_⟩;have hcz54_0 : w51.cell? ⟨gb244,0,none⟩ = some (.int .u64 a0_0) := (blk_cell BK244.out 0).trans rfl;have hcz54_1 : w51.cell? ⟨gb244,1,none⟩ = some (.int .i64 a0_1) := (blk_cell BK244.out 1).trans rfl;have hcz54_2 : w51.cell? ⟨gb244,2,none⟩ = some (.int .i64 a0_2) := (blk_cell BK244.out 2).trans rfl;have hfz54_0 := blk_frozen BK244.out 0;have hfz54_1 := blk_frozen BK244.out 1;have hfz54_2 := blk_frozen BK244.out 2)|(go_at_call 20;(with_reducible refine (privityref12_HonestParties.calls k a0_0 a0_1 a0_2 _ _ l1 t257 _ ?side1 ?side2 A21.out).mono ?_);(case side1 => repeat (first|exact (Kd.C_below HR1.out (by repeat (first|(with_reducible first|exact HB.out|apply below_alloc|apply pw_below_drewN|apply below_drew1|refine below_set ?_ GE244.out)|exact HB.out)))|(with_reducible refine Kd.C_alloc ?_ _)|(with_reducible refine Kd.C_drewN ?_ _)|(with_reducible refine Kd.C_drew ?_)));(case side2 => exact HC1.out);rintro e w55 ⟨v258,rfl,ho0,hb⟩;have n0_ := Aside0.mk (Kd.R_elder' (by (with_reducible repeat (first|apply Kd.R_alloc|apply Kd.R_drewN|apply Kd.R_drew));exact HO249.out) (Kd.R_base ho0) hb);have n1_ := Aside0.mk (Kd.R_elder' (by (with_reducible repeat (first|apply Kd.R_alloc|apply Kd.R_drewN|apply Kd.R_drew));exact HO252.out) (Kd.R_base ho0) hb);have n2_ := Aside0.mk (Kd.R_elder' (by (with_reducible repeat (first|apply Kd.R_alloc|apply Kd.R_drewN|apply Kd.R_drew));exact HO255.out) (Kd.R_base ho0) hb);have n3_ := Aside0.mk (Kd.R_lower (Kd.R_new' (Kd.R_new' (Kd.R_new' ho0 (Kd.R_lt (by (with_reducible repeat (first|apply Kd.R_alloc|apply Kd.R_drewN|apply Kd.R_drew));exact HO249.out))) (Kd.R_lt (by (with_reducible repeat (first|apply Kd.R_alloc|apply Kd.R_drewN|apply Kd.R_drew));exact HO252.out))) (Kd.R_lt (by (with_reducible repeat (first|apply Kd.R_alloc|apply Kd.R_drewN|apply Kd.R_drew));exact HO255.out))) (below_size (by repeat (first|(with_reducible first|exact HB.out|apply below_alloc|apply pw_below_drewN|apply below_drew1|refine below_set ?_ GE244.out)|exact HB.out))));have n4_ := Aside0.mk (blk_below (g := gb244) (o := .cells #[.int .u64 a0_0,.int .i64 a0_1,.int .i64 a0_2] 24 (0,0)) (by (with_reducible repeat (first|refine blk_drewN ?_ _|refine blk_drew ?_|refine blk_alloc ?_ _));exact BK244.out) hb);have n5_ := Aside0.mk (below_step (by repeat (first|(with_reducible first|exact HB.out|apply below_alloc|apply pw_below_drewN|apply below_drew1|refine below_set ?_ GE244.out)|exact HB.out)) hb);clear HO249;clear HO252;clear HO255;clear BK244;clear HB;have HO249 := n0_;have HO252 := n1_;have HO255 := n2_;have HO259 := n3_;have BK244 := n4_;have HB := n5_;clear n0_ n1_ n2_ n3_ n4_ n5_;(try clear hb);(try clear hb2);(try clear hk);(try clear hi);(try clear ho0);obtain ⟨Ao56,co56,eo56⟩ := Kd.R_slice HO252.out;subst eo56;obtain ⟨Ao57,co57,eo57⟩ := Kd.R_slice HO259.out;subst eo57)|(go_at_call 18;(with_reducible refine (privityref12_Ints.calls k _ _ t250 _ _ t257 false _ ?side1 ?side2 ?side3 ?side4 A22.out).mono ?_);(case side1 => repeat (first|exact (Kd.R_reads' HO252.out).2.2|(with_reducible refine Kd.C_alloc ?_ _)|(with_reducible refine Kd.C_drewN ?_ _)|(with_reducible refine Kd.C_drew ?_)));(case side2 => exact (Kd.R_reads' HO252.out).2.1);(case side3 => repeat (first|exact (Kd.R_reads' HO259.out).2.2|(with_reducible refine Kd.C_alloc ?_ _)|(with_reducible refine Kd.C_drewN ?_ _)|(with_reducible refine Kd.C_drew ?_)));(case side4 => exact (Kd.R_reads' HO259.out).2.1);rintro e w' ⟨rfl,⟨nd,rfl⟩⟩))
      go_meet
      case rel => exact ⟨_,(true),(by first|rfl|(simp;done)|(simp [*];done)),H',⟨by first|omega|exact Nat.le_refl _⟩,⟨by (with_reducible repeat (first|apply Kd.R_alloc|apply Kd.R_drewN|apply Kd.R_drew));exact Kd.R_mono HO249.out (fun _ hk => hk.1.1.2)⟩,⟨by (with_reducible repeat (first|apply Kd.R_alloc|apply Kd.R_drewN|apply Kd.R_drew));exact Kd.R_mono HO252.out (fun _ hk => hk.1.1.2)⟩,⟨by (with_reducible repeat (first|refine blk_drewN ?_ _|refine blk_drew ?_|refine blk_alloc ?_ _));exact BK244.out⟩,⟨by repeat (first|(with_reducible first|exact HB.out|apply below_alloc|apply pw_below_drewN|apply below_drew1|refine below_set ?_ GE244.out)|exact HB.out)⟩⟩
    ·replace c20 := Bool.eq_false_iff.mpr c20
     subst c20
     have H1 : (privitylaw12_ParamsPartitionParties.j0 k l1 t247 t250 true a0_0 a0_1 a0_2) = some r := by rw [if_neg (show ¬ (false = true) by decide)] at H;exact H
     clear H
     have H := H1
     clear H1
     have H' := Aside0.mk H
     clear H
     have hcz58_0 : w17.cell? ⟨gb244,0,none⟩ = some (.int .u64 a0_0) := (blk_cell BK244.out 0).trans rfl
     have hcz58_1 : w17.cell? ⟨gb244,1,none⟩ = some (.int .i64 a0_1) := (blk_cell BK244.out 1).trans rfl
     have hcz58_2 : w17.cell? ⟨gb244,2,none⟩ = some (.int .i64 a0_2) := (blk_cell BK244.out 2).trans rfl
     have hfz58_0 := blk_frozen BK244.out 0
     have hfz58_1 := blk_frozen BK244.out 1
     have hfz58_2 := blk_frozen BK244.out 2
     go_wp2_with (first|((with_reducible refine gate_callee (f := 19) rfl ?_);refine goesL_ (some 23) rfl rfl Tryd.func19 (by kernel_rfl) rfl #[.agg #[.int .u64 a0_0,.int .i64 a0_1,.int .i64 a0_2],.slice A1 l1.length c1] rfl (by (try simp only [List.map_toArray,List.map_cons,List.map_nil]);first|done|rfl|(simp only [List.length_drop,List.length_take];rfl)) ?_;(with_reducible refine (privityref12_ExtendCoalition.calls k a0_0 a0_1 a0_2 _ _ l1 t253 _ ?side1 ?side2 A18.out).mono ?_);(case side1 => repeat (first|exact (Kd.C_below HR1.out HB.out)|(with_reducible refine Kd.C_alloc ?_ _)|(with_reducible refine Kd.C_drewN ?_ _)|(with_reducible refine Kd.C_drew ?_)));(case side2 => exact HC1.out);rintro e w59 ⟨v254,rfl,ho0,hb⟩;refine ⟨_,rfl,?_⟩;have n0_ := Aside0.mk (Kd.R_elder' (by (with_reducible repeat (first|apply Kd.R_alloc|apply Kd.R_drewN|apply Kd.R_drew));exact HO249.out) (Kd.R_base ho0) hb);have n1_ := Aside0.mk (Kd.R_elder' (by (with_reducible repeat (first|apply Kd.R_alloc|apply Kd.R_drewN|apply Kd.R_drew));exact HO252.out) (Kd.R_base ho0) hb);have n2_ := Aside0.mk (Kd.R_lower (Kd.R_new' (Kd.R_new' ho0 (Kd.R_lt (by (with_reducible repeat (first|apply Kd.R_alloc|apply Kd.R_drewN|apply Kd.R_drew));exact HO249.out))) (Kd.R_lt (by (with_reducible repeat (first|apply Kd.R_alloc|apply Kd.R_drewN|apply Kd.R_drew));exact HO252.out))) (below_size (by repeat (first|(with_reducible first|exact HB.out|apply below_alloc|apply pw_below_drewN|apply below_drew1|refine below_set ?_ GE244.out)|exact HB.out))));have n3_ := Aside0.mk (blk_below (g := gb244) (o := .cells #[.int .u64 a0_0,.int .i64 a0_1,.int .i64 a0_2] 24 (0,0)) (by (with_reducible repeat (first|refine blk_drewN ?_ _|refine blk_drew ?_|refine blk_alloc ?_ _));exact BK244.out) hb);have n4_ := Aside0.mk (below_step (by repeat (first|(with_reducible first|exact HB.out|apply below_alloc|apply pw_below_drewN|apply below_drew1|refine below_set ?_ GE244.out)|exact HB.out)) hb);clear HO249;clear HO252;clear BK244;clear HB;have HO249 := n0_;have HO252 := n1_;have HO255 := n2_;have BK244 := n3_;have HB := n4_;clear n0_ n1_ n2_ n3_ n4_;(try clear hb);(try clear hb2);(try clear hk);(try clear hi);(try clear ho0);obtain ⟨Ao60,co60,eo60⟩ := Kd.R_slice HO249.out;subst eo60;obtain ⟨Ao61,co61,eo61⟩ := Kd.R_slice HO255.out;subst eo61)|((with_reducible refine gate_callee (f := 18) rfl ?_);refine goesL_ (some 24) rfl rfl Tryd.func18 (by kernel_rfl) rfl #[.slice Ao60 t247.length co60,.slice Ao61 t253.length co61] rfl (by (try simp only [List.map_toArray,List.map_cons,List.map_nil]);first|done|rfl|(simp only [List.length_drop,List.length_take];rfl)) ?_;(with_reducible refine (privityref12_Ints.calls k _ _ t247 _ _ t253 false _ ?side1 ?side2 ?side3 ?side4 A19.out).mono ?_);(case side1 => repeat (first|exact (Kd.R_reads' HO249.out).2.2|(with_reducible refine Kd.C_alloc ?_ _)|(with_reducible refine Kd.C_drewN ?_ _)|(with_reducible refine Kd.C_drew ?_)));(case side2 => exact (Kd.R_reads' HO249.out).2.1);(case side3 => repeat (first|exact (Kd.R_reads' HO255.out).2.2|(with_reducible refine Kd.C_alloc ?_ _)|(with_reducible refine Kd.C_drewN ?_ _)|(with_reducible refine Kd.C_drew ?_)));(case side4 => exact (Kd.R_reads' HO255.out).2.1);rintro e w' ⟨rfl,⟨nd,rfl⟩⟩;refine ⟨_,rfl,?_⟩))
     go_meet
     case rel => exact ⟨_,(true),(by first|rfl|(simp;done)|(simp [*];done)),H',⟨by first|omega|exact Nat.le_refl _⟩,⟨by (with_reducible repeat (first|apply Kd.R_alloc|apply Kd.R_drewN|apply Kd.R_drew));exact Kd.R_mono HO249.out (fun _ hk => hk.1.2)⟩,⟨by (with_reducible repeat (first|apply Kd.R_alloc|apply Kd.R_drewN|apply Kd.R_drew));exact Kd.R_mono HO252.out (fun _ hk => hk.1.2)⟩,⟨by (with_reducible repeat (first|refine blk_drewN ?_ _|refine blk_drew ?_|refine blk_alloc ?_ _));exact BK244.out⟩,⟨by repeat (first|(with_reducible first|exact HB.out|apply below_alloc|apply pw_below_drewN|apply below_drew1|refine below_set ?_ GE244.out)|exact HB.out)⟩⟩
   case rest =>
    clear HC9
    try clear c1
    try clear c2
    try clear p2
    try clear c4
    try clear c5
    try clear c6
    try clear c9
    try clear c13
    try clear c16
    try clear c17
    try clear c18
    try clear c19
    try clear c20
    try clear c23
    try clear c26
    try clear hcz12_0
    try clear hcz12_1
    try clear hcz12_2
    try clear hcz14_0
    try clear hcz14_1
    try clear hcz14_2
    try clear hcz16_0
    try clear hcz16_1
    try clear hcz16_2
    try clear hcz27_0
    try clear hcz27_1
    try clear hcz27_2
    try clear hcz31_0
    try clear hcz31_1
    try clear hcz31_2
    try clear hcz35_0
    try clear hcz35_1
    try clear hcz35_2
    try clear hcz38_0
    try clear hcz38_1
    try clear hcz38_2
    try clear hcz39_0
    try clear hcz39_1
    try clear hcz39_2
    try clear hcz43_0
    try clear hcz43_1
    try clear hcz43_2
    try clear hcz47_0
    try clear hcz47_1
    try clear hcz47_2
    try clear hcz50_0
    try clear hcz50_1
    try clear hcz50_2
    try clear hcz54_0
    try clear hcz54_1
    try clear hcz54_2
    try clear hcz58_0
    try clear hcz58_1
    try clear hcz58_2
    try clear hfz12_0
    try clear hfz12_1
    try clear hfz12_2
    try clear hfz14_0
    try clear hfz14_1
    try clear hfz14_2
    try clear hfz16_0
    try clear hfz16_1
    try clear hfz16_2
    try clear hfz27_0
    try clear hfz27_1
    try clear hfz27_2
    try clear hfz31_0
    try clear hfz31_1
    try clear hfz31_2
    try clear hfz35_0
    try clear hfz35_1
    try clear hfz35_2
    try clear hfz38_0
    try clear hfz38_1
    try clear hfz38_2
    try clear hfz39_0
    try clear hfz39_1
    try clear hfz39_2
    try clear hfz43_0
    try clear hfz43_1
    try clear hfz43_2
    try clear hfz47_0
    try clear hfz47_1
    try clear hfz47_2
    try clear hfz50_0
    try clear hfz50_1
    try clear hfz50_2
    try clear hfz54_0
    try clear hfz54_1
    try clear hfz54_2
    try clear hfz58_0
    try clear hfz58_1
    try clear hfz58_2
    obtain ⟨kq,x48_8,rfl,HA,HJ8,HO_5,HO_6,BK244,HB⟩ := hcut
    cases kq with
    | zero => exact absurd HA.out (by simp [privitylaw12_ParamsPartitionParties.j0])
    | succ kj8 =>
     have H := HA.out
     clear HA
     simp only [privitylaw12_ParamsPartitionParties.j0] at H
     by_cases c62 : x48_8 = true
     ·subst c62
      have H1 : (some false) = some r := by rw [if_pos rfl] at H;exact H
      clear H
      have H := H1
      clear H1
      exact absurd (Option.some.inj H) (by rw [HRT_.out];simp)
     ·replace c62 := Bool.eq_false_iff.mpr c62
      subst c62
      have H1 : (privitylaw12_ParamsPartitionParties.l0 kj8 l1 t247 t250 1 a0_0 a0_1 a0_2) = some r := by rw [if_neg (show ¬ (false = true) by decide)] at H;exact H
      clear H
      have H := H1
      clear H1
      have H' := Aside0.mk H
      clear H
      go_wp2
      go_loopg [7] kj8 (fun kq v7 w' => ∃ (x7_2 : Int),v7 = .int .i64 x7_2 ∧ Aside0 (privitylaw12_ParamsPartitionParties.l0 kq l1 t247 t250 x7_2 a0_0 a0_1 a0_2 = some r) ∧ Aside0 (kq ≤ kj8) ∧ Aside0 (Kd.R (Kd.int .i64) 3 w' w.heap.size (fun k_ => some k_ ≠ (v251 : Value).ownBlock) v248 t247) ∧ Aside0 (Kd.R (Kd.int .i64) 3 w' w.heap.size (fun k_ => some k_ ≠ (v248 : Value).ownBlock) v251 t250) ∧ Aside0 (w'.heap[gb244]? = some (.cells #[.int .u64 a0_0,.int .i64 a0_1,.int .i64 a0_2] 24 (0,0))) ∧ Aside0 (Below w.heap.size w w'))
      case atStart => exact ⟨(1),(by first|rfl|(simp;done)|(simp [*];done)),H',⟨Nat.le_refl _⟩,⟨by (with_reducible repeat (first|apply Kd.R_alloc|apply Kd.R_drewN|apply Kd.R_drew));exact HO_5.out⟩,⟨by (with_reducible repeat (first|apply Kd.R_alloc|apply Kd.R_drewN|apply Kd.R_drew));exact HO_6.out⟩,⟨by (with_reducible repeat (first|refine blk_drewN ?_ _|refine blk_drew ?_|refine blk_alloc ?_ _));exact BK244.out⟩,⟨by repeat (first|(with_reducible first|exact HB.out|apply below_alloc|apply pw_below_drewN|apply below_drew1|refine below_set ?_ GE244.out)|exact HB.out)⟩⟩
      case round =>
       clear H'
       try clear c1
       try clear c2
       try clear p2
       try clear c4
       try clear c5
       try clear c6
       try clear c9
       try clear c13
       try clear c16
       try clear c17
       try clear c18
       try clear c19
       try clear c20
       try clear c23
       try clear c26
       try clear c62
       try clear hcz12_0
       try clear hcz12_1
       try clear hcz12_2
       try clear hcz14_0
       try clear hcz14_1
       try clear hcz14_2
       try clear hcz16_0
       try clear hcz16_1
       try clear hcz16_2
       try clear hcz27_0
       try clear hcz27_1
       try clear hcz27_2
       try clear hcz31_0
       try clear hcz31_1
       try clear hcz31_2
       try clear hcz35_0
       try clear hcz35_1
       try clear hcz35_2
       try clear hcz38_0
       try clear hcz38_1
       try clear hcz38_2
       try clear hcz39_0
       try clear hcz39_1
       try clear hcz39_2
       try clear hcz43_0
       try clear hcz43_1
       try clear hcz43_2
       try clear hcz47_0
       try clear hcz47_1
       try clear hcz47_2
       try clear hcz50_0
       try clear hcz50_1
       try clear hcz50_2
       try clear hcz54_0
       try clear hcz54_1
       try clear hcz54_2
       try clear hcz58_0
       try clear hcz58_1
       try clear hcz58_2
       try clear hfz12_0
       try clear hfz12_1
       try clear hfz12_2
       try clear hfz14_0
       try clear hfz14_1
       try clear hfz14_2
       try clear hfz16_0
       try clear hfz16_1
       try clear hfz16_2
       try clear hfz27_0
       try clear hfz27_1
       try clear hfz27_2
       try clear hfz31_0
       try clear hfz31_1
       try clear hfz31_2
       try clear hfz35_0
       try clear hfz35_1
       try clear hfz35_2
       try clear hfz38_0
       try clear hfz38_1
       try clear hfz38_2
       try clear hfz39_0
       try clear hfz39_1
       try clear hfz39_2
       try clear hfz43_0
       try clear hfz43_1
       try clear hfz43_2
       try clear hfz47_0
       try clear hfz47_1
       try clear hfz47_2
       try clear hfz50_0
       try clear hfz50_1
       try clear hfz50_2
       try clear hfz54_0
       try clear hfz54_1
       try clear hfz54_2
       try clear hfz58_0
       try clear hfz58_1
       try clear hfz58_2
       try clear p2
       obtain ⟨x7_2,rfl,HA,HK2,HO_5,HO_6,BK244,HB⟩ := hrel
       cases gk with
       | zero => exact absurd HA.out (by simp [privitylaw12_ParamsPartitionParties.l0])
       | succ k2 =>
        have H := HA.out
        clear HA
        simp only [privitylaw12_ParamsPartitionParties.l0] at H
        by_cases c63 : x7_2 ≤ a0_1
        ·rw [if_pos c63] at H
         have c63b0 : decide (x7_2 ≤ a0_1) = true := decide_eq_true c63
         clear c63
         replace H := Option.bind_eq_some_iff.mp H
         obtain ⟨t265,A640,H⟩ := H
         replace H : ((privityref12_In.f k2 t250 x7_2).bind fun t266 => (if (t265 == t266) = true then (some false) else ((privityref12_In.f k2 l1 x7_2).bind fun t267 => (if t267 = true then ((privityref12_In.f k2 t247 x7_2).bind fun t268 => (if t268 = true then (privitylaw12_ParamsPartitionParties.l0 k2 l1 t247 t250 (wrap64 (x7_2 + 1)) a0_0 a0_1 a0_2) else (some false))) else (privitylaw12_ParamsPartitionParties.l0 k2 l1 t247 t250 (wrap64 (x7_2 + 1)) a0_0 a0_1 a0_2))))) = some r := H
         have A64 := Aside0.mk A640
         clear A640
         replace H := Option.bind_eq_some_iff.mp H
         obtain ⟨t266,A650,H⟩ := H
         replace H : (if (t265 == t266) = true then (some false) else ((privityref12_In.f k2 l1 x7_2).bind fun t267 => (if t267 = true then ((privityref12_In.f k2 t247 x7_2).bind fun t268 => (if t268 = true then (privitylaw12_ParamsPartitionParties.l0 k2 l1 t247 t250 (wrap64 (x7_2 + 1)) a0_0 a0_1 a0_2) else (some false))) else (privitylaw12_ParamsPartitionParties.l0 k2 l1 t247 t250 (wrap64 (x7_2 + 1)) a0_0 a0_1 a0_2)))) = some r := H
         have A65 := Aside0.mk A650
         clear A650
         by_cases c66 : (t265 == t266) = true
         ·rw [if_pos c66] at H
          have c66b0 : (t265 == t266) = true := c66
          (try (have c66b1 : decide (t265 = t266) = true := by simpa using c66))
          (try (have c66b2 : (t265 == t266) = true := by simpa using c66))
          clear c66
          obtain rfl := Option.some.inj H
          have hcz67_0 : wr.cell? ⟨gb244,0,none⟩ = some (.int .u64 a0_0) := (blk_cell BK244.out 0).trans rfl
          have hcz67_1 : wr.cell? ⟨gb244,1,none⟩ = some (.int .i64 a0_1) := (blk_cell BK244.out 1).trans rfl
          have hcz67_2 : wr.cell? ⟨gb244,2,none⟩ = some (.int .i64 a0_2) := (blk_cell BK244.out 2).trans rfl
          have hfz67_0 := blk_frozen BK244.out 0
          have hfz67_1 := blk_frozen BK244.out 1
          have hfz67_2 := blk_frozen BK244.out 2
          go_wp2_with (first|((with_reducible refine gate_callee (f := 21) rfl ?_);refine goesL_ (some 57) rfl rfl Tryd.func21 (by kernel_rfl) rfl #[.slice A1 l1.length c1,.int .i64 x7_2] rfl (by (try simp only [List.map_toArray,List.map_cons,List.map_nil]);first|done|rfl|(simp only [List.length_drop,List.length_take];rfl)) ?_;(with_reducible refine (privityref12_In.calls k2 _ _ l1 x7_2 t265 _ ?side1 ?side2 A64.out).mono ?_);(case side1 => repeat (first|exact (Kd.C_below HR1.out HB.out)|(with_reducible refine Kd.C_alloc ?_ _)|(with_reducible refine Kd.C_drewN ?_ _)|(with_reducible refine Kd.C_drew ?_)));(case side2 => exact HC1.out);rintro e w' ⟨rfl,⟨nd,rfl⟩⟩;refine ⟨_,rfl,?_⟩;obtain ⟨Ao68,co68,eo68⟩ := Kd.R_slice HO_6.out;subst eo68)|((with_reducible refine gate_callee (f := 21) rfl ?_);refine goesL_ (some 60) rfl rfl Tryd.func21 (by kernel_rfl) rfl #[.slice Ao68 t250.length co68,.int .i64 x7_2] rfl (by (try simp only [List.map_toArray,List.map_cons,List.map_nil]);first|done|rfl|(simp only [List.length_drop,List.length_take];rfl)) ?_;(with_reducible refine (privityref12_In.calls k2 _ _ t250 x7_2 t266 _ ?side1 ?side2 A65.out).mono ?_);(case side1 => repeat (first|exact (Kd.R_reads' HO_6.out).2.2|(with_reducible refine Kd.C_alloc ?_ _)|(with_reducible refine Kd.C_drewN ?_ _)|(with_reducible refine Kd.C_drew ?_)));(case side2 => exact (Kd.R_reads' HO_6.out).2.1);rintro e w' ⟨rfl,⟨nd,rfl⟩⟩;refine ⟨_,rfl,?_⟩))
          go_ret
          exact ⟨by first|rfl|(simp [errW_none,errW_some] <;> rfl)|(simp [*,errW_none,errW_some] <;> rfl),by repeat (first|(with_reducible first|exact HB.out|apply below_alloc|apply pw_below_drewN|apply below_drew1|refine below_set ?_ GE244.out)|exact HB.out)⟩
         ·rw [if_neg c66] at H
          have c66b0 : (t265 == t266) = false := by simpa using c66
          (try (have c66b1 : decide (t265 = t266) = false := by simpa using c66))
          (try (have c66b2 : (t265 == t266) = false := by simpa using c66))
          (try (have c66b3 : ¬ (t265 = t266) := by simpa using c66))
          clear c66
          replace H := Option.bind_eq_some_iff.mp H
          obtain ⟨t267,A690,H⟩ := H
          replace H : (if t267 = true then ((privityref12_In.f k2 t247 x7_2).bind fun t268 => (if t268 = true then (privitylaw12_ParamsPartitionParties.l0 k2 l1 t247 t250 (wrap64 (x7_2 + 1)) a0_0 a0_1 a0_2) else (some false))) else (privitylaw12_ParamsPartitionParties.l0 k2 l1 t247 t250 (wrap64 (x7_2 + 1)) a0_0 a0_1 a0_2)) = some r := H
          have A69 := Aside0.mk A690
          clear A690
          by_cases c70 : t267 = true
          ·subst c70
           have H1 : ((privityref12_In.f k2 t247 x7_2).bind fun t268 => (if t268 = true then (privitylaw12_ParamsPartitionParties.l0 k2 l1 t247 t250 (wrap64 (x7_2 + 1)) a0_0 a0_1 a0_2) else (some false))) = some r := by rw [if_pos rfl] at H;exact H
           clear H
           have H := H1
           clear H1
           replace H := Option.bind_eq_some_iff.mp H
           obtain ⟨t268,A710,H⟩ := H
           replace H : (if t268 = true then (privitylaw12_ParamsPartitionParties.l0 k2 l1 t247 t250 (wrap64 (x7_2 + 1)) a0_0 a0_1 a0_2) else (some false)) = some r := H
           have A71 := Aside0.mk A710
           clear A710
           by_cases c72 : t268 = true
           ·subst c72
            have H1 : (privitylaw12_ParamsPartitionParties.l0 k2 l1 t247 t250 (wrap64 (x7_2 + 1)) a0_0 a0_1 a0_2) = some r := by rw [if_pos rfl] at H;exact H
            clear H
            have H := H1
            clear H1
            have H' := Aside0.mk H
            clear H
            have hcz73_0 : wr.cell? ⟨gb244,0,none⟩ = some (.int .u64 a0_0) := (blk_cell BK244.out 0).trans rfl
            have hcz73_1 : wr.cell? ⟨gb244,1,none⟩ = some (.int .i64 a0_1) := (blk_cell BK244.out 1).trans rfl
            have hcz73_2 : wr.cell? ⟨gb244,2,none⟩ = some (.int .i64 a0_2) := (blk_cell BK244.out 2).trans rfl
            have hfz73_0 := blk_frozen BK244.out 0
            have hfz73_1 := blk_frozen BK244.out 1
            have hfz73_2 := blk_frozen BK244.out 2
            go_wp2_with (first|((with_reducible refine gate_callee (f := 21) rfl ?_);refine goesL_ (some 57) rfl rfl Tryd.func21 (by kernel_rfl) rfl #[.slice A1 l1.length c1,.int .i64 x7_2] rfl (by (try simp only [List.map_toArray,List.map_cons,List.map_nil]);first|done|rfl|(simp only [List.length_drop,List.length_take];rfl)) ?_;(with_reducible refine (privityref12_In.calls k2 _ _ l1 x7_2 t265 _ ?side1 ?side2 A64.out).mono ?_);(case side1 => repeat (first|exact (Kd.C_below HR1.out HB.out)|(with_reducible refine Kd.C_alloc ?_ _)|(with_reducible refine Kd.C_drewN ?_ _)|(with_reducible refine Kd.C_drew ?_)));(case side2 => exact HC1.out);rintro e w' ⟨rfl,⟨nd,rfl⟩⟩;refine ⟨_,rfl,?_⟩;obtain ⟨Ao74,co74,eo74⟩ := Kd.R_slice HO_6.out;subst eo74)|((with_reducible refine gate_callee (f := 21) rfl ?_);refine goesL_ (some 60) rfl rfl Tryd.func21 (by kernel_rfl) rfl #[.slice Ao74 t250.length co74,.int .i64 x7_2] rfl (by (try simp only [List.map_toArray,List.map_cons,List.map_nil]);first|done|rfl|(simp only [List.length_drop,List.length_take];rfl)) ?_;(with_reducible refine (privityref12_In.calls k2 _ _ t250 x7_2 t266 _ ?side1 ?side2 A65.out).mono ?_);(case side1 => repeat (first|exact (Kd.R_reads' HO_6.out).2.2|(with_reducible refine Kd.C_alloc ?_ _)|(with_reducible refine Kd.C_drewN ?_ _)|(with_reducible refine Kd.C_drew ?_)));(case side2 => exact (Kd.R_reads' HO_6.out).2.1);rintro e w' ⟨rfl,⟨nd,rfl⟩⟩;refine ⟨_,rfl,?_⟩)|(go_at_call 21;(with_reducible refine (privityref12_In.calls k2 _ _ l1 x7_2 true _ ?side1 ?side2 A69.out).mono ?_);(case side1 => repeat (first|exact (Kd.C_below HR1.out (by repeat (first|(with_reducible first|exact HB.out|apply below_alloc|apply pw_below_drewN|apply below_drew1|refine below_set ?_ GE244.out)|exact HB.out)))|(with_reducible refine Kd.C_alloc ?_ _)|(with_reducible refine Kd.C_drewN ?_ _)|(with_reducible refine Kd.C_drew ?_)));(case side2 => exact HC1.out);rintro e w' ⟨rfl,⟨nd,rfl⟩⟩;obtain ⟨Ao75,co75,eo75⟩ := Kd.R_slice HO_5.out;subst eo75)|(go_at_call 21;(with_reducible refine (privityref12_In.calls k2 _ _ t247 x7_2 true _ ?side1 ?side2 A71.out).mono ?_);(case side1 => repeat (first|exact (Kd.R_reads' HO_5.out).2.2|(with_reducible refine Kd.C_alloc ?_ _)|(with_reducible refine Kd.C_drewN ?_ _)|(with_reducible refine Kd.C_drew ?_)));(case side2 => exact (Kd.R_reads' HO_5.out).2.1);rintro e w' ⟨rfl,⟨nd,rfl⟩⟩))
            go_roundg k2
            case measure => have := HJ8.out;have := HK2.out;omega
            case rel => exact ⟨(wrap64 (x7_2 + 1)),(by first|rfl|(simp;done)|(simp [*];done)),H',⟨by have := HJ8.out;have := HK2.out;omega⟩,⟨by (with_reducible repeat (first|apply Kd.R_alloc|apply Kd.R_drewN|apply Kd.R_drew));exact HO_5.out⟩,⟨by (with_reducible repeat (first|apply Kd.R_alloc|apply Kd.R_drewN|apply Kd.R_drew));exact HO_6.out⟩,⟨by (with_reducible repeat (first|refine blk_drewN ?_ _|refine blk_drew ?_|refine blk_alloc ?_ _));exact BK244.out⟩,⟨by repeat (first|(with_reducible first|exact HB.out|apply below_alloc|apply pw_below_drewN|apply below_drew1|refine below_set ?_ GE244.out)|exact HB.out)⟩⟩
           ·replace c72 := Bool.eq_false_iff.mpr c72
            subst c72
            have H1 : (some false) = some r := by rw [if_neg (show ¬ (false = true) by decide)] at H;exact H
            clear H
            have H := H1
            clear H1
            exact absurd (Option.some.inj H) (by rw [HRT_.out];simp)
          ·replace c70 := Bool.eq_false_iff.mpr c70
           subst c70
           have H1 : (privitylaw12_ParamsPartitionParties.l0 k2 l1 t247 t250 (wrap64 (x7_2 + 1)) a0_0 a0_1 a0_2) = some r := by rw [if_neg (show ¬ (false = true) by decide)] at H;exact H
           clear H
           have H := H1
           clear H1
           have H' := Aside0.mk H
           clear H
           have hcz79_0 : wr.cell? ⟨gb244,0,none⟩ = some (.int .u64 a0_0) := (blk_cell BK244.out 0).trans rfl
           have hcz79_1 : wr.cell? ⟨gb244,1,none⟩ = some (.int .i64 a0_1) := (blk_cell BK244.out 1).trans rfl
           have hcz79_2 : wr.cell? ⟨gb244,2,none⟩ = some (.int .i64 a0_2) := (blk_cell BK244.out 2).trans rfl
           have hfz79_0 := blk_frozen BK244.out 0
           have hfz79_1 := blk_frozen BK244.out 1
           have hfz79_2 := blk_frozen BK244.out 2
           go_wp2_with (first|((with_reducible refine gate_callee (f := 21) rfl ?_);refine goesL_ (some 57) rfl rfl Tryd.func21 (by kernel_rfl) rfl #[.slice A1 l1.length c1,.int .i64 x7_2] rfl (by (try simp only [List.map_toArray,List.map_cons,List.map_nil]);first|done|rfl|(simp only [List.length_drop,List.length_take];rfl)) ?_;(with_reducible refine (privityref12_In.calls k2 _ _ l1 x7_2 t265 _ ?side1 ?side2 A64.out).mono ?_);(case side1 => repeat (first|exact (Kd.C_below HR1.out HB.out)|(with_reducible refine Kd.C_alloc ?_ _)|(with_reducible refine Kd.C_drewN ?_ _)|(with_reducible refine Kd.C_drew ?_)));(case side2 => exact HC1.out);rintro e w' ⟨rfl,⟨nd,rfl⟩⟩;refine ⟨_,rfl,?_⟩;obtain ⟨Ao80,co80,eo80⟩ := Kd.R_slice HO_6.out;subst eo80)|((with_reducible refine gate_callee (f := 21) rfl ?_);refine goesL_ (some 60) rfl rfl Tryd.func21 (by kernel_rfl) rfl #[.slice Ao80 t250.length co80,.int .i64 x7_2] rfl (by (try simp only [List.map_toArray,List.map_cons,List.map_nil]);first|done|rfl|(simp only [List.length_drop,List.length_take];rfl)) ?_;(with_reducible refine (privityref12_In.calls k2 _ _ t250 x7_2 t266 _ ?side1 ?side2 A65.out).mono ?_);(case side1 => repeat (first|exact (Kd.R_reads' HO_6.out).2.2|(with_reducible refine Kd.C_alloc ?_ _)|(with_reducible refine Kd.C_drewN ?_ _)|(with_reducible refine Kd.C_drew ?_)));(case side2 => exact (Kd.R_reads' HO_6.out).2.1);rintro e w' ⟨rfl,⟨nd,rfl⟩⟩;refine ⟨_,rfl,?_⟩)|(go_at_call 21;(with_reducible refine (privityref12_In.calls k2 _ _ l1 x7_2 false _ ?side1 ?side2 A69.out).mono ?_);(case side1 => repeat (first|exact (Kd.C_below HR1.out (by repeat (first|(with_reducible first|exact HB.out|apply below_alloc|apply pw_below_drewN|apply below_drew1|refine below_set ?_ GE244.out)|exact HB.out)))|(with_reducible refine Kd.C_alloc ?_ _)|(with_reducible refine Kd.C_drewN ?_ _)|(with_reducible refine Kd.C_drew ?_)));(case side2 => exact HC1.out);rintro e w' ⟨rfl,⟨nd,rfl⟩⟩))
           go_roundg k2
           case measure => have := HJ8.out;have := HK2.out;omega
           case rel => exact ⟨(wrap64 (x7_2 + 1)),(by first|rfl|(simp;done)|(simp [*];done)),H',⟨by have := HJ8.out;have := HK2.out;omega⟩,⟨by (with_reducible repeat (first|apply Kd.R_alloc|apply Kd.R_drewN|apply Kd.R_drew));exact HO_5.out⟩,⟨by (with_reducible repeat (first|apply Kd.R_alloc|apply Kd.R_drewN|apply Kd.R_drew));exact HO_6.out⟩,⟨by (with_reducible repeat (first|refine blk_drewN ?_ _|refine blk_drew ?_|refine blk_alloc ?_ _));exact BK244.out⟩,⟨by repeat (first|(with_reducible first|exact HB.out|apply below_alloc|apply pw_below_drewN|apply below_drew1|refine below_set ?_ GE244.out)|exact HB.out)⟩⟩
        ·rw [if_neg c63] at H
         have c63b0 : decide (x7_2 ≤ a0_1) = false := decide_eq_false c63
         clear c63
         obtain rfl := Option.some.inj H
         have hcz81_0 : wr.cell? ⟨gb244,0,none⟩ = some (.int .u64 a0_0) := (blk_cell BK244.out 0).trans rfl
         have hcz81_1 : wr.cell? ⟨gb244,1,none⟩ = some (.int .i64 a0_1) := (blk_cell BK244.out 1).trans rfl
         have hcz81_2 : wr.cell? ⟨gb244,2,none⟩ = some (.int .i64 a0_2) := (blk_cell BK244.out 2).trans rfl
         have hfz81_0 := blk_frozen BK244.out 0
         have hfz81_1 := blk_frozen BK244.out 1
         have hfz81_2 := blk_frozen BK244.out 2
         obtain ⟨Ao82,co82,eo82⟩ := Kd.R_slice HO_6.out
         subst eo82
         go_wp2
         go_ret
         exact ⟨by first|rfl|(simp [errW_none,errW_some] <;> rfl)|(simp [*,errW_none,errW_some] <;> rfl),by repeat (first|(with_reducible first|exact HB.out|apply below_alloc|apply pw_below_drewN|apply below_drew1|refine below_set ?_ GE244.out)|exact HB.out)⟩
  ·replace c6 := Bool.eq_false_iff.mpr c6
   subst c6
   have H1 : (some true) = some r := by rw [if_neg (show ¬ (false = true) by decide)] at H;exact H
   clear H
   have H := H1
   clear H1
   obtain rfl := Option.some.inj H
   go_enter Tryd.func5,Tryd.ntmps5
   go_wp2_with (first|((with_reducible refine gate_dst (N := 2) rfl ?_);(try (refine gate_guard (by rfl) ?_;dsimp only));refine box_event ?hg (N := 2) ?hd (cs := #[.int .u64 a0_0,.int .i64 a0_1,.int .i64 a0_2]) (t := 24) ?hr ?_;(case hd => rfl);(case hg => rfl);(case hr => first|(go_simp;done)|(go_simp;rfl));intro gb244 hg w83 hbox hb;have n0_ := Aside0.mk (below_step (by repeat (first|(with_reducible first|exact HB.out|apply below_alloc|apply pw_below_drewN|apply below_drew1)|exact HB.out)) hb);have n1_ := Aside0.mk (hbox);have n2_ := Aside0.mk ((by rw [hg];exact (below_size (by repeat (first|(with_reducible first|exact HB.out|apply below_alloc|apply pw_below_drewN|apply below_drew1)|exact HB.out))) : w.heap.size ≤ gb244));have n3_ := Aside0.mk ((by rw [hg];exact (below_size (by repeat (first|(with_reducible first|exact HB.out|apply below_alloc|apply pw_below_drewN|apply below_drew1)|exact HB.out))) : w.heap.size ≤ gb244));clear HB;have HB := n0_;have BK244 := n1_;have GW244 := n2_;have GE244 := n3_;clear n0_ n1_ n2_ n3_;clear hb hbox hg)|((with_reducible refine gate_callee (f := 9) rfl ?_);refine goesL_ (some 8) rfl rfl Tryd.func9 (by kernel_rfl) rfl #[] rfl (by (try simp only [List.map_toArray,List.map_cons,List.map_nil]);first|done|rfl|(simp only [List.length_drop,List.length_take];rfl)) ?_;(with_reducible refine (privitylaw12_awake.calls  true _ ?sidehx A3.out).mono ?_);(case sidehx => repeat (first|exact HX_.out|exact (Hx_below HX_.out HB.out)|(with_reducible refine Hx_alloc ?_ _)|(with_reducible refine Hx_drewN ?_ _)|(with_reducible refine Hx_drew ?_)));rintro e w84 ⟨rfl,hb⟩;refine ⟨_,rfl,?_⟩;have n0_ := Aside0.mk (blk_below (g := gb244) (o := .cells #[.int .u64 a0_0,.int .i64 a0_1,.int .i64 a0_2] 24 (0,0)) (by (with_reducible repeat (first|refine blk_drewN ?_ _|refine blk_drew ?_|refine blk_alloc ?_ _));exact BK244.out) hb);have n1_ := Aside0.mk (below_step (by repeat (first|(with_reducible first|exact HB.out|apply below_alloc|apply pw_below_drewN|apply below_drew1|refine below_set ?_ GE244.out)|exact HB.out)) hb);clear BK244;clear HB;have BK244 := n0_;have HB := n1_;clear n0_ n1_;(try clear hb);(try clear hb2);(try clear hk);(try clear hi);have hcz85_0 : w84.cell? ⟨gb244,0,none⟩ = some (.int .u64 a0_0) := (blk_cell BK244.out 0).trans rfl;have hcz85_1 : w84.cell? ⟨gb244,1,none⟩ = some (.int .i64 a0_1) := (blk_cell BK244.out 1).trans rfl;have hcz85_2 : w84.cell? ⟨gb244,2,none⟩ = some (.int .i64 a0_2) := (blk_cell BK244.out 2).trans rfl;have hfz85_0 := blk_frozen BK244.out 0;have hfz85_1 := blk_frozen BK244.out 1;have hfz85_2 := blk_frozen BK244.out 2)|((with_reducible refine gate_callee (f := 13) rfl ?_);refine goesL_ (some 12) rfl rfl Tryd.func13 (by kernel_rfl) rfl #[.agg #[.int .u64 a0_0,.int .i64 a0_1,.int .i64 a0_2],.slice A1 l1.length c1] rfl (by (try simp only [List.map_toArray,List.map_cons,List.map_nil]);first|done|rfl|(simp only [List.length_drop,List.length_take];rfl)) ?_;(with_reducible refine (privityref12_ValidCoalition.calls k a0_0 a0_1 a0_2 _ _ l1 false _ ?side1 ?side2 A5.out).mono ?_);(case side1 => repeat (first|exact (Kd.C_below HR1.out HB.out)|(with_reducible refine Kd.C_alloc ?_ _)|(with_reducible refine Kd.C_drewN ?_ _)|(with_reducible refine Kd.C_drew ?_)));(case side2 => exact HC1.out);rintro e w86 ⟨rfl,hb⟩;refine ⟨_,rfl,?_⟩;have n0_ := Aside0.mk (blk_below (g := gb244) (o := .cells #[.int .u64 a0_0,.int .i64 a0_1,.int .i64 a0_2] 24 (0,0)) (by (with_reducible repeat (first|refine blk_drewN ?_ _|refine blk_drew ?_|refine blk_alloc ?_ _));exact BK244.out) hb);have n1_ := Aside0.mk (below_step (by repeat (first|(with_reducible first|exact HB.out|apply below_alloc|apply pw_below_drewN|apply below_drew1|refine below_set ?_ GE244.out)|exact HB.out)) hb);clear BK244;clear HB;have BK244 := n0_;have HB := n1_;clear n0_ n1_;(try clear hb);(try clear hb2);(try clear hk);(try clear hi)))
   go_ret
   exact ⟨by first|rfl|(simp [errW_none,errW_some] <;> rfl)|(simp [*,errW_none,errW_some] <;> rfl),by repeat (first|(with_reducible first|exact HB.out|apply below_alloc|apply pw_below_drewN|apply below_drew1|refine below_set ?_ GE244.out)|exact HB.out)⟩
 ·replace c4 := Bool.eq_false_iff.mpr c4
  subst c4
  have H1 : (some false) = some r := by rw [if_neg (show ¬ (false = true) by decide)] at H;exact H
  clear H
  have H := H1
  clear H1
  exact absurd (Option.some.inj H) (by rw [HRT_.out];simp)
end Go.Proofs.YtakaonojfpkhnaaDoor.Pr
end
section
/- Printed by a program of this seat (the kit's printer, with the functions that were proved by hand given to it). What stands here: the functions that the statements reach, as plain functions, and that the Go code computes them. -/
namespace Go.Proofs.YtakaonojfpkhnaaDoor.Pr
open Go.RowKit Go.Proofs.YtakaonojfpkhnaaDoorW.PrintWords Go.Proofs.YtakaonojfpkhnaaDoorW.PrintLast Go.Proofs.YtakaonojfpkhnaaDoorW.PrintMore
attribute [local go_sem] max2_int min2_int max_two min_two max_three min_three max_four min_four   -- for this text's walks alone
set_option linter.unusedVariables false
set_option linter.unusedSimpArgs false

open Go.Proofs.YtakaonojfpkhnaaDoor.Hw
/-! ### privityref04_Mul: function 41 -/
end Go.Proofs.YtakaonojfpkhnaaDoor.Pr
end
section
/-
  The reference of layer 4: what its printed functions answer.
-/
namespace Go.Proofs.YtakaonojfpkhnaaDoor.E
open Go.RowKit Go.Proofs.YtakaonojfpkhnaaDoor.Pr Go.Proofs.YtakaonojfpkhnaaDoor.Hw Go.Proofs.YtakaonojfpkhnaaDoor.Pl Go.Proofs.YtakaonojfpkhnaaDoorW.PrintWords Go.Proofs.YtakaonojfpkhnaaDoorW.PrintLast Go.Proofs.YtakaonojfpkhnaaDoorW.PrintMore
set_option linter.unusedVariables false
set_option linter.unusedSimpArgs false

theorem getD_out (l : List Int) (j : Nat) (h : l.length ≤ j) : l.getD j 0 = 0 := by rw [List.getD_eq_getElem?_getD, List.getElem?_eq_none h]; rfl
/-! ### Coefficients of what the program adds up -/
/-! ### Sum -/
theorem list_ext_getD {a b : List Int} (hl : a.length = b.length) (h : ∀ i, a.getD i 0 = b.getD i 0) : a = b := by
  apply List.ext_getElem hl
  intro i h1 h2
  have := h i
  rwa [Hw.getD_in _ _ h1, Hw.getD_in _ _ h2] at this
end Go.Proofs.YtakaonojfpkhnaaDoor.E
end
section
/- Printed by a program of this seat (the kit's printer, with the functions that were proved by hand given to it). What stands here: the functions that the statements reach, as plain functions, and that the Go code computes them. -/
namespace Go.Proofs.YtakaonojfpkhnaaDoor.Pr
open Go.RowKit Go.Proofs.YtakaonojfpkhnaaDoorW.PrintWords Go.Proofs.YtakaonojfpkhnaaDoorW.PrintLast Go.Proofs.YtakaonojfpkhnaaDoorW.PrintMore
attribute [local go_sem] max2_int min2_int max_two min_two max_three min_three max_four min_four   -- for this text's walks alone
set_option linter.unusedVariables false
set_option linter.unusedSimpArgs false

open Go.Proofs.YtakaonojfpkhnaaDoor.Hw
/-! ### privityref12_Deviation: function 25 -/
/-! ### privityref05_Below: function 37 -/
end Go.Proofs.YtakaonojfpkhnaaDoor.Pr
end
section
/-
  The reference of layer 5: what its printed functions answer.
-/
namespace Go.Proofs.YtakaonojfpkhnaaDoor.E
open Go.RowKit Go.Proofs.YtakaonojfpkhnaaDoor.Pr Go.Proofs.YtakaonojfpkhnaaDoor.Hw Go.Proofs.YtakaonojfpkhnaaDoor.Pl Go.Proofs.YtakaonojfpkhnaaDoorW.PrintWords Go.Proofs.YtakaonojfpkhnaaDoorW.PrintLast Go.Proofs.YtakaonojfpkhnaaDoorW.PrintMore
set_option linter.unusedVariables false
set_option linter.unusedSimpArgs false

end Go.Proofs.YtakaonojfpkhnaaDoor.E
end
section
/- Printed by a program of this seat (the kit's printer, with the functions that were proved by hand given to it). What stands here: the functions that the statements reach, as plain functions, and that the Go code computes them. -/
namespace Go.Proofs.YtakaonojfpkhnaaDoor.Pr
open Go.RowKit Go.Proofs.YtakaonojfpkhnaaDoorW.PrintWords Go.Proofs.YtakaonojfpkhnaaDoorW.PrintLast Go.Proofs.YtakaonojfpkhnaaDoorW.PrintMore
attribute [local go_sem] max2_int min2_int max_two min_two max_three min_three max_four min_four   -- for this text's walks alone
set_option linter.unusedVariables false
set_option linter.unusedSimpArgs false

open Go.Proofs.YtakaonojfpkhnaaDoor.Hw
/-! ### privityref12_VanishingPolynomial: function 26 -/
end Go.Proofs.YtakaonojfpkhnaaDoor.Pr
end
section
/-
  What the statements of chapter 12 share: valid parameters and coalitions, the extended coalition, the vanishing polynomial.
-/
namespace Go.Proofs.YtakaonojfpkhnaaDoor.E
open Go.RowKit Go.Proofs.YtakaonojfpkhnaaDoor.Pr Go.Proofs.YtakaonojfpkhnaaDoor.Hw Go.Proofs.YtakaonojfpkhnaaDoor.Pl Go.Proofs.YtakaonojfpkhnaaDoorW.PrintWords Go.Proofs.YtakaonojfpkhnaaDoorW.PrintLast Go.Proofs.YtakaonojfpkhnaaDoorW.PrintMore
set_option linter.unusedVariables false
set_option linter.unusedSimpArgs false

/-! Valid parameters and coalitions. -/
theorem val12_ev (p N T : Int) : Ev (fun k => privityref12_Valid.f k p N T) (val12B p N T) := by
  unfold privityref12_Valid.f
  refine ev_if (supported_ev p) (fun h => ?_) (fun h => ?_)
  · unfold val12B
    rw [h, Bool.true_and]
    refine Ev.congr (fun k => ?_) (Ev.now _)
    by_cases h1 : 4 ≤ N
    · rw [if_pos h1]
      by_cases h2 : N ≤ 13
      · rw [if_pos h2, wrapU_id (by omega) (by omega)]
        by_cases h3 : N < p
        · rw [if_pos h3]
          by_cases h4 : 1 ≤ T
          · rw [if_pos h4]
            by_cases h5 : T < N
            · rw [if_pos h5, w64' (by omega) (by omega)]
              by_cases h6 : 3 * T < N
              · rw [decide_eq_true h6, decide_eq_true ⟨h1, h2, h3, h4, h5, h6⟩]
              · rw [decide_eq_false h6, decide_eq_false fun h => h6 h.2.2.2.2.2]
            · rw [if_neg h5, decide_eq_false fun h => h5 h.2.2.2.2.1]
          · rw [if_neg h4, decide_eq_false fun h => h4 h.2.2.2.1]
        · rw [if_neg h3, decide_eq_false fun h => h3 h.2.2.1]
      · rw [if_neg h2, decide_eq_false fun h => h2 h.2.1]
    · rw [if_neg h1, decide_eq_false fun h => h1 h.1]
  · have : val12B p N T = false := by unfold val12B; rw [h]; rfl
    rw [this]; exact Ev.now _
theorem coa12_ev (p N T : Int) (l : List Int) : Ev (fun k => privityref12_ValidCoalition.f k p N T l) (coaB p N T l) := by
  unfold privityref12_ValidCoalition.f
  have hno : ∀ r, r = false → Ev (fun k => privityref12_ValidCoalition.j0 k l true p N T) r := fun r hr => by
    subst hr
    refine Ev.step (fun k => ?_) (Ev.now _)
    simp only [privityref12_ValidCoalition.j0]
    rw [if_pos trivial]
  refine ev_if (val12_ev p N T) (fun h => ?_) (fun h => hno _ (by unfold coaB; rw [h]; rfl))
  unfold coaB
  rw [h, Bool.true_and]
  unfold val12B at h
  rw [Bool.and_eq_true, decide_eq_true_eq] at h
  obtain ⟨_, a1, a2, a3, a4, a5, a6⟩ := h
  by_cases hl : (l.length : Int) > T
  · rw [decide_eq_true hl]
    exact hno _ (by rw [decide_eq_false (by omega)]; rfl)
  · rw [decide_eq_false hl, decide_eq_true (by omega), Bool.true_and]
    refine Ev.step (f := fun k => privityref12_ValidCoalition.l0 k l ((0 : Nat) : Int) p N T) (fun k => ?_) ?_
    · simp only [privityref12_ValidCoalition.j0]
      rw [if_neg (by simp)]; rfl
    · refine allQ (F := fun k i => privityref12_ValidCoalition.l0 k l i p N T) (n := l.length) (Q := IncAt N l) (e := true) ?_ (fun i hi hq r h => ?_) (fun i hi hq => ?_) (incB N l) (by unfold incB; rw [decide_eq_true_iff]; exact ⟨fun h => ⟨h, rfl⟩, fun h => h.1⟩)
      · refine Ev.step (fun k => ?_) (Ev.now _)
        simp only [privityref12_ValidCoalition.l0]
        rw [if_neg (by omega)]
      · obtain ⟨q1, q2, q3⟩ := hq
        refine Ev.step (fun k => ?_) h
        simp only [privityref12_ValidCoalition.l0]
        rw [if_pos (by omega), if_pos (by omega), rd_nat, if_neg (by omega), if_neg (by omega), wnat (by omega)]
        by_cases h0 : i = 0
        · rw [if_neg (by omega)]
        · rw [if_pos (by omega), w64' (n := (i : Int) - 1) (by omega) (by omega), if_pos (by omega), if_pos (by omega), show (i : Int) - 1 = ((i - 1 : Nat) : Int) from by omega, rd_nat, if_neg (by have := q3.resolve_left h0; omega)]
      · refine Ev.step (fun k => ?_) (Ev.now _)
        simp only [privityref12_ValidCoalition.l0]
        rw [if_pos (by omega), if_pos (by omega), rd_nat]
        by_cases q1 : l.getD i 0 < 1
        · rw [if_pos q1]
        · rw [if_neg q1]
          by_cases q2 : l.getD i 0 > N
          · rw [if_pos q2]
          · have h0 : i ≠ 0 := fun e => hq ⟨by omega, by omega, .inl e⟩
            rw [if_neg q2, if_pos (by omega), w64' (n := (i : Int) - 1) (by omega) (by omega), if_pos (by omega), if_pos (by omega), show (i : Int) - 1 = ((i - 1 : Nat) : Int) from by omega, rd_nat, if_pos (Int.not_lt.1 fun h => hq ⟨by omega, by omega, .inr h⟩)]
theorem inc_lt {N : Int} {l : List Int} (h : ∀ i, i < l.length → IncAt N l i) (i : Nat) : ∀ d, i + d + 1 < l.length → l.getD i 0 < l.getD (i + d + 1) 0
  | 0, hd => by
    have := (h (i + 1) hd).2.2.resolve_left (by omega)
    rwa [Nat.add_sub_cancel] at this
  | d + 1, hd => by
    have h1 := inc_lt h i d (by omega)
    have h2 := (h (i + d + 1 + 1) hd).2.2.resolve_left (by omega)
    rw [Nat.add_sub_cancel] at h2
    have : i + (d + 1) + 1 = i + d + 1 + 1 := by omega
    rw [this]; omega
/-- Valid parameters and a valid coalition. -/
structure Ok12 (p N T : Int) (bad : List Int) : Prop where
  hp : Supp p
  np : N < p
  coa : CoaB N T bad
theorem ok12 {p N T : Int} {l : List Int} (h : coaB p N T l = true) : Ok12 p N T l := by
  unfold coaB val12B incB at h
  rw [Bool.and_eq_true, Bool.and_eq_true, Bool.and_eq_true, decide_eq_true_eq, decide_eq_true_eq, decide_eq_true_eq] at h
  obtain ⟨⟨h1, a1, a2, a3, a4, a5, a6⟩, h2, h3⟩ := h
  have hin : ∀ x ∈ l, ∃ i, i < l.length ∧ l.getD i 0 = x := fun x hx => by
    obtain ⟨i, hi, rfl⟩ := List.getElem_of_mem hx
    exact ⟨i, hi, Hw.getD_in _ _ hi⟩
  refine ⟨supB_of h1, a3, ⟨a1, a2, a4, a6, h2, ?_, fun x hx => ?_⟩⟩
  · rw [List.nodup_iff_pairwise_ne]
    refine List.pairwise_iff_getElem.2 fun i j hi hj hij e => ?_
    have := inc_lt h3 i (j - i - 1) (by omega)
    rw [show i + (j - i - 1) + 1 = j from by omega, Hw.getD_in _ _ hi, Hw.getD_in _ _ hj, e] at this
    omega
  · obtain ⟨i, hi, rfl⟩ := hin x hx
    have := h3 i hi
    exact ⟨this.1, this.2.1⟩
/-! The vanishing polynomial. -/
theorem in_ev (l : List Int) (x : Int) (hl : l.length ≤ 1000) : Ev (fun k => privityref12_In.f k l x) (decide (x ∈ l)) := by
  unfold privityref12_In.f
  by_cases hx : x ∈ l
  · rw [decide_eq_true hx]
    obtain ⟨i, hi, e⟩ := List.getElem_of_mem hx
    refine up (Q := fun j => Ev (fun k => privityref12_In.l0 k l x (j : Int)) true) (n := i) ?_ fun j hj h => ?_
    · refine Ev.step (fun k => ?_) (Ev.now _)
      simp only [privityref12_In.l0]
      rw [if_pos (by omega), if_pos (by omega), rd_nat, Hw.getD_in _ _ hi, if_pos e]
    · by_cases he : l.getD j 0 = x
      · refine Ev.step (fun k => ?_) (Ev.now _)
        simp only [privityref12_In.l0]
        rw [if_pos (by omega), if_pos (by omega), rd_nat, if_pos he]
      · refine Ev.step (fun k => ?_) h
        simp only [privityref12_In.l0]
        rw [if_pos (by omega), if_pos (by omega), rd_nat, if_neg he, wnat (by omega)]
  · rw [decide_eq_false hx]
    refine up (Q := fun j => Ev (fun k => privityref12_In.l0 k l x (j : Int)) false) (n := l.length) ?_ fun j hj h => ?_
    · refine Ev.step (fun k => ?_) (Ev.now _)
      simp only [privityref12_In.l0]
      rw [if_neg (by omega)]
    · have he : l.getD j 0 ≠ x := fun e => hx (by rw [← e, Hw.getD_in _ _ hj]; exact List.getElem_mem _)
      refine Ev.step (fun k => ?_) h
      simp only [privityref12_In.l0]
      rw [if_pos (by omega), if_pos (by omega), rd_nat, if_neg he, wnat (by omega)]
theorem rext_l0 (p N T : Int) (bad : List Int) (hl : bad.length ≤ 1000) (hN : N ≤ 13) : ∀ (n : Nat) (m lack : Int) (acc : List Int), 1 ≤ m → m + n = N + 1 → -1000 ≤ lack → lack ≤ 1000 → (acc.length : Int) + 1 ≤ m →
    Ev (fun k => privityref12_ExtendCoalition.l0 k bad lack acc m p N T) (acc ++ extL bad n m lack)
  | 0, m, lack, acc, h1, h2, _, _, _ => by
    refine Ev.step (fun k => ?_) (Ev.now _)
    simp only [privityref12_ExtendCoalition.l0]
    rw [if_neg (by omega), extL, List.append_nil]
  | n + 1, m, lack, acc, h1, h2, h3, h4, h5 => by
    have hw : wrap64 (m + 1) = m + 1 := w64' (by omega) (by omega)
    refine Ev.step (f := fun k => (privityref12_In.f k bad m).bind fun t412 => (if t412 = true then (if acc.length < 17592186044416 then (privityref12_ExtendCoalition.l0 k bad lack (acc ++ [m]) (wrap64 (m + 1)) p N T) else (none)) else (if lack > 0 then (if acc.length < 17592186044416 then (privityref12_ExtendCoalition.l0 k bad (wrap64 (lack - 1)) (acc ++ [m]) (wrap64 (m + 1)) p N T) else (none)) else (privityref12_ExtendCoalition.l0 k bad lack acc (wrap64 (m + 1)) p N T)))) (fun k => ?_) ?_
    · simp only [privityref12_ExtendCoalition.l0]
      rw [if_pos (by omega)]
    · refine ev_if (in_ev bad m hl) (fun h => ?_) (fun h => ?_)
      · rw [decide_eq_true_eq] at h
        refine ev_ite (fun _ => ?_) (fun h => absurd (show acc.length < 17592186044416 by omega) h)
        rw [hw, ext_yes h]
        have := rext_l0 p N T bad hl hN n (m + 1) lack (acc ++ [m]) (by omega) (by omega) h3 h4 (by rw [List.length_append]; simp only [List.length_cons, List.length_nil]; omega)
        rwa [List.append_assoc] at this
      · rw [decide_eq_false_iff_not] at h
        refine ev_ite (fun hk => ?_) (fun hk => ?_)
        · refine ev_ite (fun _ => ?_) (fun h => absurd (show acc.length < 17592186044416 by omega) h)
          rw [hw, ext_more h hk, w64' (n := lack - 1) (by omega) (by omega)]
          have := rext_l0 p N T bad hl hN n (m + 1) (lack - 1) (acc ++ [m]) (by omega) (by omega) (by omega) (by omega) (by rw [List.length_append]; simp only [List.length_cons, List.length_nil]; omega)
          rwa [List.append_assoc] at this
        · rw [hw, ext_skip h hk]
          exact rext_l0 p N T bad hl hN n (m + 1) lack acc (by omega) (by omega) h3 h4 (by omega)
theorem rext_ev {p N T : Int} {bad : List Int} (h : Ok12 p N T bad) : Ev (fun k => privityref12_ExtendCoalition.f k p N T bad) (extB N T bad) := by
  have h1 := h.coa.n0
  have h2 := h.coa.n1
  have h3 := h.coa.len
  have h4 := h.coa.t1
  unfold privityref12_ExtendCoalition.f
  rw [w64' (by omega) (by omega)]
  have := rext_l0 p N T bad (by omega) h2 N.toNat 1 (T - bad.length) [] (by omega) (by omega) (by omega) (by omega) (by simp)
  rwa [List.nil_append] at this
/-! The program's own functions, and the reference's. -/
theorem ints_ev (a b : List Int) (ha : a.length ≤ 1000000000) : Ev (fun k => privityref12_Ints.f k a b) (decide (a = b)) := by
  by_cases hl : a.length = b.length
  · have h := allQ (F := fun k i => privityref12_Ints.l0 k a b i) (n := a.length) (Q := fun i => a.getD i 0 = b.getD i 0) (e := true) ?_ (fun i hi hq r h => ?_) (fun i hi hq => ?_) (decide (a = b)) ?_
    · refine h.congr fun k => ?_
      unfold privityref12_Ints.f
      rw [if_pos (by omega)]; rfl
    · refine Ev.step (fun k => ?_) (Ev.now _)
      simp only [privityref12_Ints.l0]
      rw [if_neg (by omega)]
    · refine Ev.step (fun k => ?_) h
      simp only [privityref12_Ints.l0]
      rw [if_pos (by omega), if_pos (by omega), if_pos (by omega), rd_nat, rd_nat, if_pos hq, wnat (by omega)]
    · refine Ev.step (fun k => ?_) (Ev.now _)
      simp only [privityref12_Ints.l0]
      rw [if_pos (by omega), if_pos (by omega), if_pos (by omega), rd_nat, rd_nat, if_neg hq]
    · rw [decide_eq_true_iff]
      refine ⟨fun e => ⟨fun i _ => by rw [e], rfl⟩, fun h => list_ext_getD hl fun i => ?_⟩
      by_cases hi : i < a.length
      · exact h.1 i hi
      · rw [getD_out a i (by omega), getD_out b i (by omega)]
  · have : decide (a = b) = false := decide_eq_false fun e => hl (by rw [e])
    rw [this]
    refine Ev.congr (fun k => ?_) (Ev.now _)
    unfold privityref12_Ints.f
    rw [if_neg (by omega)]
theorem intsY_ev (a : List Int) (ha : a.length ≤ 1000000000) : Ev (fun k => privityref12_Ints.f k a a) true := by
  have := ints_ev a a ha
  rwa [decide_eq_true rfl] at this
theorem extP_eq (p : Int) {N : Int} (T : Int) {l : List Int} (h0 : 0 ≤ N) (h1 : N ≤ 13) (hl : l.length ≤ 1000) (hr : ∀ x ∈ l, 0 ≤ x ∧ x < 14) : params_ExtendCoalition.f p N T l = some (extB N T l) := by
  unfold params_ExtendCoalition.f
  rw [if_pos (by omega), if_pos (by omega), if_pos (by omega), if_pos]
  · rfl
  · refine List.all_eq_true.2 fun x hx => ?_
    have := hr x hx
    rw [Bool.and_eq_true, decide_eq_true_eq, decide_eq_true_eq]; exact this
theorem honP_eq (p : Int) {N : Int} (T : Int) {l : List Int} (h0 : 0 ≤ N) (h1 : N ≤ 13) (hl : l.length ≤ 1000) (hr : ∀ x ∈ l, 0 ≤ x ∧ x < 14) : params_HonestParties.f p N T l = some (honL l N.toNat 1) := by
  unfold params_HonestParties.f
  rw [if_pos (by omega), if_pos (by omega), if_pos (by omega), if_pos]
  refine List.all_eq_true.2 fun x hx => ?_
  have := hr x hx
  rw [Bool.and_eq_true, decide_eq_true_eq, decide_eq_true_eq]; exact this
theorem Ok12.r14 {p N T : Int} {bad : List Int} (h : Ok12 p N T bad) : ∀ x ∈ bad, 0 ≤ x ∧ x < 14 := fun x hx => by have := h.coa.rng x hx; have := h.coa.n1; omega
theorem Ok12.e14 {p N T : Int} {bad : List Int} (h : Ok12 p N T bad) : ∀ x ∈ extB N T bad, 0 ≤ x ∧ x < 14 := fun x hx => by have := extB_range h.coa x hx; have := h.coa.n1; omega
theorem Ok12.len {p N T : Int} {bad : List Int} (h : Ok12 p N T bad) : bad.length ≤ 13 ∧ (extB N T bad).length ≤ 13 := by
  have h1 := h.coa.n0
  have h2 := h.coa.n1
  have h3 := h.coa.len
  have h4 := h.coa.t1
  have h5 := extB_length h.coa
  omega
theorem Ok12.extP {p N T : Int} {bad : List Int} (h : Ok12 p N T bad) : params_ExtendCoalition.f p N T bad = some (extB N T bad) := by
  have h1 := h.coa.n0
  exact extP_eq p T (by omega) h.coa.n1 (by have := h.len; omega) h.r14
theorem Ok12.extE {p N T : Int} {bad : List Int} (h : Ok12 p N T bad) : params_ExtendCoalition.f p N T (extB N T bad) = some (extB N T bad) := by
  have h1 := h.coa.n0
  have h2 := extP_eq p T (by omega) h.coa.n1 (by have := h.len; omega) h.e14
  rw [h2]
  have h3 := extB_length h.coa
  refine congrArg some ?_
  have : extB N T (extB N T bad) = extL (extB N T bad) N.toNat 1 0 := by
    show extL (extB N T bad) N.toNat 1 (T - ((extB N T bad).length : Int)) = _
    rw [h3, Int.sub_self]
  rw [this]
  exact extL_idem _ _ _ _
theorem Ok12.honP {p N T : Int} {bad : List Int} (h : Ok12 p N T bad) : params_HonestParties.f p N T bad = some (honL bad N.toNat 1) := by
  have h1 := h.coa.n0
  exact honP_eq p T (by omega) h.coa.n1 (by have := h.len; omega) h.r14
theorem rhon_l0 (p N T : Int) (bad : List Int) (hl : bad.length ≤ 1000) (hN : N ≤ 13) : ∀ (n : Nat) (m : Int) (acc : List Int), 1 ≤ m → m + n = N + 1 → (acc.length : Int) + 1 ≤ m →
    Ev (fun k => privityref12_HonestParties.l0 k bad acc m p N T) (acc ++ honL bad n m)
  | 0, m, acc, h1, h2, _ => by
    refine Ev.step (fun k => ?_) (Ev.now _)
    simp only [privityref12_HonestParties.l0]
    rw [if_neg (by omega)]
    simp [honL, runL]
  | n + 1, m, acc, h1, h2, h5 => by
    have hw : wrap64 (m + 1) = m + 1 := w64' (by omega) (by omega)
    refine Ev.step (f := fun k => (privityref12_In.f k bad m).bind fun t => (if t = true then (privityref12_HonestParties.l0 k bad acc (wrap64 (m + 1)) p N T) else (if acc.length < 17592186044416 then (privityref12_HonestParties.l0 k bad (acc ++ [m]) (wrap64 (m + 1)) p N T) else (none)))) (fun k => ?_) ?_
    · simp only [privityref12_HonestParties.l0]
      rw [if_pos (by omega)]
    · refine ev_if (in_ev bad m hl) (fun h => ?_) (fun h => ?_)
      · rw [decide_eq_true_eq] at h
        rw [hw, hon_skip h]
        exact rhon_l0 p N T bad hl hN n (m + 1) acc (by omega) (by omega) (by omega)
      · rw [decide_eq_false_iff_not] at h
        refine ev_ite (fun _ => ?_) (fun h => absurd (show acc.length < 17592186044416 by omega) h)
        rw [hw, hon_more h]
        have := rhon_l0 p N T bad hl hN n (m + 1) (acc ++ [m]) (by omega) (by omega) (by rw [List.length_append]; simp only [List.length_cons, List.length_nil]; omega)
        rwa [List.append_assoc] at this
theorem rhon_ev {p N T : Int} {bad : List Int} (h : Ok12 p N T bad) : Ev (fun k => privityref12_HonestParties.f k p N T bad) (honL bad N.toNat 1) := by
  have h1 := h.coa.n0
  have h2 := h.coa.n1
  unfold privityref12_HonestParties.f
  have := rhon_l0 p N T bad (by have := h.len; omega) h2 N.toNat 1 [] (by omega) (by omega) (by simp)
  rwa [List.nil_append] at this
theorem hon_mem {bad : List Int} {n : Nat} {k x : Int} : x ∈ honL bad n k ↔ (k ≤ x ∧ x < k + n) ∧ x ∉ bad := by
  unfold honL
  rw [List.mem_filter, runL_mem, decide_eq_true_eq]
end Go.Proofs.YtakaonojfpkhnaaDoor.E
end
section
/-
  What the statements of chapter 12 share: the first check.
-/
namespace Go.Proofs.YtakaonojfpkhnaaDoor.E
open Go.RowKit Go.Proofs.YtakaonojfpkhnaaDoor.Pr Go.Proofs.YtakaonojfpkhnaaDoor.Hw Go.Proofs.YtakaonojfpkhnaaDoor.Pl Go.Proofs.YtakaonojfpkhnaaDoorW.PrintWords Go.Proofs.YtakaonojfpkhnaaDoorW.PrintLast Go.Proofs.YtakaonojfpkhnaaDoorW.PrintMore
set_option linter.unusedVariables false
set_option linter.unusedSimpArgs false

theorem awake12 : Ev (fun _ => privitylaw12_awake.f) true := Ev.now _
end Go.Proofs.YtakaonojfpkhnaaDoor.E
end
section
/-
  The coalition and the honest parties partition the set of parties.
-/
namespace Go.Proofs.YtakaonojfpkhnaaDoor.Pure
open Go.RowKit Go.Proofs.YtakaonojfpkhnaaDoor.Pr Go.Proofs.YtakaonojfpkhnaaDoor.Hw Go.Proofs.YtakaonojfpkhnaaDoor.E Go.Proofs.YtakaonojfpkhnaaDoor.Pl Go.Proofs.YtakaonojfpkhnaaDoorW.PrintWords Go.Proofs.YtakaonojfpkhnaaDoorW.PrintLast Go.Proofs.YtakaonojfpkhnaaDoorW.PrintMore
set_option linter.unusedVariables false
set_option linter.unusedSimpArgs false

theorem part_l0 {p N T : Int} {bad : List Int} (h : Ok12 p N T bad) : ∀ (n : Nat) (m : Int), 1 ≤ m → m + n = N + 1 → Ev (fun k => privitylaw12_ParamsPartitionParties.l0 k bad (extB N T bad) (honL bad N.toNat 1) m p N T) true
  | 0, m, h1, h2 => by
    have a0 := h.coa.n0
    have a1 := h.coa.n1
    have a2 := h.coa.hon_len
    have a3 := h.coa.len
    have a4 := h.coa.t1
    refine Ev.step (fun k => ?_) (Ev.now _)
    simp only [privitylaw12_ParamsPartitionParties.l0]
    rw [if_neg (by omega), w64' (by omega) (by omega), w64' (by omega) (by omega), decide_eq_true (by omega)]
  | n + 1, m, h1, h2 => by
    have a0 := h.coa.n0
    have a1 := h.coa.n1
    have a2 := h.coa.hon_len
    have a5 := h.len
    have hw : wrap64 (m + 1) = m + 1 := w64' (by omega) (by omega)
    have ih := part_l0 h n (m + 1) (by omega) (by omega)
    have hh : decide (m ∈ honL bad N.toNat 1) = !decide (m ∈ bad) := by
      by_cases hb : m ∈ bad
      · rw [decide_eq_true hb, decide_eq_false fun e => (hon_mem.1 e).2 hb]; rfl
      · rw [decide_eq_false hb, decide_eq_true (hon_mem.2 ⟨⟨h1, by omega⟩, hb⟩)]; rfl
    refine Ev.step (f := fun k => (privityref12_In.f k bad m).bind fun t319 => ((privityref12_In.f k (honL bad N.toNat 1) m).bind fun t320 => (if (t319 == t320) = true then (some false) else ((privityref12_In.f k bad m).bind fun t321 => (if t321 = true then ((privityref12_In.f k (extB N T bad) m).bind fun t322 => (if t322 = true then (privitylaw12_ParamsPartitionParties.l0 k bad (extB N T bad) (honL bad N.toNat 1) (wrap64 (m + 1)) p N T) else (some false))) else (privitylaw12_ParamsPartitionParties.l0 k bad (extB N T bad) (honL bad N.toNat 1) (wrap64 (m + 1)) p N T)))))) (fun k => ?_) ?_
    · simp only [privitylaw12_ParamsPartitionParties.l0]
      rw [if_pos (by omega)]
    · refine Ev.bind (in_ev bad m (by omega)) (Ev.bind (in_ev (honL bad N.toNat 1) m (by omega)) ?_)
      rw [hh]
      refine ev_ite (fun e => absurd e (by cases decide (m ∈ bad) <;> simp)) (fun _ => ?_)
      rw [hw]
      refine ev_if (in_ev bad m (by omega)) (fun hb => ?_) (fun _ => ih)
      rw [decide_eq_true_eq] at hb
      refine ev_if (in_ev (extB N T bad) m (by omega)) (fun _ => ih) (fun e => ?_)
      rw [decide_eq_false_iff_not] at e
      exact absurd (extB_has h.coa m hb) e
theorem ParamsPartitionParties (p N T : Int) (bad : List Int) (wp : (Lit.int .u64 p).wf = true) (wN : (Lit.int .i64 N).wf = true) (wT : (Lit.int .i64 T).wf = true) (wb : ∀ x_ ∈ bad, (Lit.int .i64 x_).wf = true) : ∃ k, privitylaw12_ParamsPartitionParties.f k p N T bad = some true := by
  refine Ev.rounds (r := true) ?_
  unfold privitylaw12_ParamsPartitionParties.f
  refine ev_if awake12 (fun _ => ev_if (coa12_ev p N T bad) (fun h => ?_) fun _ => Ev.now _) (fun h => by cases h)
  have ok := ok12 h
  have hlen := ok.len
  have a0 := ok.coa.n0
  have a1 := ok.coa.n1
  have a2 := ok.coa.hon_len
  have a3 := extB_length ok.coa
  refine ev_now_bind ok.extP (ev_now_bind ok.honP (Ev.bind (rext_ev ok) ?_))
  refine ev_if (intsY_ev _ (by omega)) (fun _ => ?_) (fun h => by cases h)
  refine Ev.bind (rhon_ev ok) (ev_if (intsY_ev _ (by omega)) (fun _ => ?_) (fun h => by cases h))
  refine ev_now_bind ok.extE (ev_if (intsY_ev _ (by omega)) (fun _ => ?_) (fun h => by cases h))
  rw [a3, bne_self_eq_false]
  refine Ev.step (f := fun k => privitylaw12_ParamsPartitionParties.l0 k bad (extB N T bad) (honL bad N.toNat 1) 1 p N T) (fun k => ?_) (part_l0 ok N.toNat 1 (by omega) (by omega))
  simp only [privitylaw12_ParamsPartitionParties.j0]
  rw [if_neg (by simp)]
end Go.Proofs.YtakaonojfpkhnaaDoor.Pure
end
section
/-
  What came in, opened: numbers, bools, rows and structs of them, to any depth.
-/
namespace Go.Proofs.YtakaonojfpkhnaaDoor.Op
open Go.RowKit Go.Proofs.YtakaonojfpkhnaaDoorW.PrintWords
set_option linter.unusedVariables false

/-- What is read of a type's value is a value of d, and Q holds of it. -/
def OpenK {α : Type} (P : Program) (t : TypeId) (d : Kd α) (Q : α → Prop) : Prop :=
  ∀ {H : Type} {enc : TypeId × Value → H} {w : World} {base : Nat} {sp : Nat → Bool} {hd : Bool} {fuel : Nat} {cs : List Value} {x : DataW H × List MemPlace}, DataW.trod enc P w base sp hd fuel t cs = some x → ∃ v : α, d.K w v cs ∧ Q v
theorem openInt {P : Program} {t : TypeId} {k : IntKind} (ht : P.underlying t = some (.int k)) : OpenK P t (Kd.int k) (fun n => (Lit.int k n).wf = true) := by
  intro H enc w base sp hd fuel cs x h
  obtain ⟨n, rfl, _, hw⟩ := DataW.trod_int ht h
  exact ⟨n, rfl, hw⟩
theorem exists_list {α : Type} {R : Nat → α → Prop} : ∀ (n : Nat), (∀ i, i < n → ∃ v, R i v) → ∃ l : List α, l.length = n ∧ ∀ i v, l[i]? = some v → R i v
  | 0, _ => ⟨[], rfl, fun i v h => by simp at h⟩
  | n + 1, h => by
    obtain ⟨l, hl, hr⟩ := exists_list n (fun i hi => h i (by omega))
    obtain ⟨v, hv⟩ := h n (by omega)
    refine ⟨l ++ [v], by simp [hl], fun i u hu => ?_⟩
    by_cases hi : i < n
    · rw [List.getElem?_append_left (by omega)] at hu
      exact hr i u hu
    · rw [List.getElem?_append_right (by omega)] at hu
      by_cases h0 : i - l.length = 0
      · rw [h0] at hu
        simp only [List.getElem?_cons_zero, Option.some.injEq] at hu
        rw [← hu, show i = n from by omega]; exact hv
      · rw [List.getElem?_eq_none (by simp; omega)] at hu; cases hu
theorem openSlice {α : Type} {P : Program} {t e : TypeId} {d : Kd α} {Q : α → Prop} (ht : P.underlying t = some (.slice e)) (hc : P.cellsOf e = d.sz) (he : OpenK P e d Q) : OpenK P t (Kd.slice e d) (fun l => ∀ x ∈ l, Q x) := by
  intro H enc w base sp hd fuel cs x h
  rcases DataW.trod_slice ht h with ⟨rfl, _⟩ | ⟨a, len, cap, elems, rest, n, _, rfl, _, _, hlc, hm, hlen, hel, _, _⟩
  · exact ⟨[], ⟨none, 0, rfl, Nat.le_refl _, rfl, Nat.zero_le _, fun h => absurd h (Nat.lt_irrefl 0)⟩, fun x hx => by cases hx⟩
  · have each : ∀ i, i < len → ∃ v, (∃ c, c.length = d.sz ∧ d.K w v c ∧ ∀ j u, c[j]? = some u → w.cell? (a.add (i * d.sz + j)) = some u) ∧ Q v := by
      intro i hi
      have h1 := hel i hi
      rw [List.getElem?_eq_getElem (by omega), hc] at h1
      obtain ⟨c, hcs, htr⟩ := Option.bind_eq_some_iff.1 h1
      obtain ⟨v, hk, hq⟩ := he htr
      refine ⟨v, ⟨c, d.K_len hk, hk, fun j u hu => ?_⟩, hq⟩
      have h2 := World.cells?_some hcs
      have hj := (List.getElem?_eq_some_iff.1 hu).1
      have h3 := h2.2.2 j (by rw [← d.K_len hk]; exact hj)
      rw [hu] at h3
      rw [← h3, ← Addr.add_add]
    obtain ⟨l, hl, hr⟩ := exists_list len each
    refine ⟨l, ⟨some a, cap, by rw [hl], by omega, rfl, by rw [hl]; simp only [maxLen] at hm; omega, fun _ => ⟨a, rfl, fun j p hj => (hr j p hj).1⟩⟩, fun x hx => ?_⟩
    obtain ⟨i, hi, rfl⟩ := List.getElem_of_mem hx
    exact (hr i _ (List.getElem?_eq_getElem hi)).2
/-- A struct's fields. -/
theorem openFields {P : Program} {H : Type} {enc : TypeId × Value → H} {w : World} {base : Nat} {sp : Nat → Bool} {hd : Bool} {fuel : Nat} {t : TypeId} {cs : List Value} {x : DataW H × List MemPlace} {fs : Array Field} (ht : P.underlying t = some (.struct fs))
    (h : DataW.trod enc P w base sp hd fuel t cs = some x) : cs.length = P.cellsOf t ∧ ∀ (i : Nat) (f : Field), fs[i]? = some f → ∃ n y, DataW.trod enc P w base sp hd n f.type ((cs.drop f.offset).take (P.cellsOf f.type)) = some y := by
  obtain ⟨xs, n, _, _, hl, hlen, hf⟩ := DataW.trod_struct ht h
  refine ⟨hl, fun i f hi => ?_⟩
  have h1 := hf i f hi
  have h2 : i < fs.size := (Array.getElem?_eq_some_iff.1 hi).1
  rw [List.getElem?_eq_getElem (by omega)] at h1
  exact ⟨n, _, h1⟩
end Go.Proofs.YtakaonojfpkhnaaDoor.Op
end
section
/- The row of the law ParamsPartitionParties, out of its plain law and the walk. -/
namespace Go.Proofs.YtakaonojfpkhnaaDoor.paramsPartitionParties
open Go.Proofs.YtakaonojfpkhnaaDoor.Hw Go.ChangeShapes Go.WideShapes Go.ChangeAt Go.RowKit Go.Proofs.YtakaonojfpkhnaaDoor.Pr Go.Proofs.YtakaonojfpkhnaaDoorW.PrintWords
set_option linter.unusedVariables false
theorem own : ownKnob Tryd.prog.godebug = none := by kernel_rfl
theorem laidOut : laidOutB Tryd.prog = true := by kernel_rfl
theorem arr3 (cs : Array Value) (h : cs.size = 3) : ∃ c0_ c1_ c2_, cs = #[c0_, c1_, c2_] := by
  obtain ⟨l_⟩ := cs
  match l_, h with
  | [c0_, c1_, c2_], _ => exact ⟨_, _, _, rfl⟩
set_option maxHeartbeats 4000000 in
set_option maxRecDepth 100000 in
theorem lifted (os : Os) (started : os.Started) (H : Type) (enc : TypeId × Value → H) :
    ReturnsInHanded {} Tryd.checked os 5 .any (fun w args => (Rows.paramsPartitionPartiesSpec.pre enc Tryd.prog Tryd.f5 [] false w args ∧ laidMetH Tryd.prog laidx w) ∧ sizedMet enc Tryd.prog Tryd.f5 (OpenSpec.ofChange Rows.paramsPartitionPartiesSpec) false w args) (Rows.paramsPartitionPartiesSpec.post enc Tryd.prog Tryd.f5 false true false false) := by
  refine returnsInHanded_of_change_and (C := Tryd.checked) (X := fun w _ => laidMetH Tryd.prog laidx w) (fun _ _ _ hh h => h.of_heap hh) own started (by kernel_rfl) Tryd.func5
    (ChangeSpec.witness_shaped (enc := enc) (C := Tryd.checked) (os := os) (X := fun w _ => laidMetH Tryd.prog laidx w) false (World.doorLaid Tryd.prog 400 os) #[.agg #[.int .u64 0, .int .i64 0, .int .i64 0], .slice none 0 0] 8 rfl (World.shaped_of_RefB (by kernel_rfl) (by kernel_rfl)) (by kernel_rfl) (by kernel_rfl) (by kernel_rfl) (door_met os _)) ?_
  intro W base args ds gs before hval0 hW hcnd hsz0 hL0 _
  have hX_ := of_laid hL0
  clear hL0
  have hval : ∀ (j : Nat) t v, Tryd.f5.params[j]? = some t → args[j]? = some v → Value.okWide Tryd.prog W .any base t v := hval0
  have hW' := hW
  obtain ⟨p, q, hA0, hV, rfl, hfz, hnd⟩ := hW
  have hA : DataW.TrodAll enc Tryd.prog W 0 (fun _ => true) true Tryd.f5.params.toList args.toList ds p := hA0
  rw [Tryd.params5] at hA hval
  obtain ⟨v0, vs0, d0, ds0, p0, q0, hargs, rfl, rfl, h0, r0⟩ := trodAll_cons hA
  obtain ⟨v1, vs1, d1, ds1, p1, q1, rfl, rfl, rfl, h1, r1⟩ := trodAll_cons r0
  obtain ⟨rfl, rfl, rfl⟩ := trodAll_nil r1
  obtain rfl : args = #[v0, v1] := by cases args; simp_all
  obtain ⟨rfl, rfl⟩ := trodVars_none hV
  have k0 := h0
  have lt0 : ∀ x ∈ p0, x.block < W.heap.size := by obtain ⟨m, hm⟩ := k0; exact DataW.trod_lt m _ _ _ hm
  obtain ⟨cs0, rfl, hs0⟩ := okWide_struct Tryd.underlying24 (hval 0 24 v0 rfl rfl)
  have hN0 : Tryd.prog.cellsOf 24 = 3 := by kernel_rfl
  rw [hN0] at hs0
  obtain ⟨x0_0, x0_1, x0_2, rfl⟩ := arr3 cs0 hs0
  obtain ⟨fu0, hf0⟩ := h0
  have hg0 : DataW.trod enc Tryd.prog W 0 (fun _ => true) true fu0 24 [x0_0, x0_1, x0_2] = some (d0, p0) := hf0
  have f0 := (Op.openFields Tryd.underlying24 hg0).2
  obtain ⟨n0_0, y0_0, e0_0⟩ := f0 0 _ rfl
  have b0_0 : DataW.trod enc Tryd.prog W 0 (fun _ => true) true n0_0 22 [x0_0] = some y0_0 := e0_0
  obtain ⟨a0_0, e0_0, w0_0⟩ := (Op.openInt (k := .u64) Tryd.underlying22) b0_0
  cases e0_0
  obtain ⟨n0_1, y0_1, e0_1⟩ := f0 1 _ rfl
  have b0_1 : DataW.trod enc Tryd.prog W 0 (fun _ => true) true n0_1 3 [x0_1] = some y0_1 := e0_1
  obtain ⟨a0_1, e0_1, w0_1⟩ := (Op.openInt (k := .i64) Tryd.underlying3) b0_1
  cases e0_1
  obtain ⟨n0_2, y0_2, e0_2⟩ := f0 2 _ rfl
  have b0_2 : DataW.trod enc Tryd.prog W 0 (fun _ => true) true n0_2 3 [x0_2] = some y0_2 := e0_2
  obtain ⟨a0_2, e0_2, w0_2⟩ := (Op.openInt (k := .i64) Tryd.underlying3) b0_2
  cases e0_2
  have k1 := h1
  have lt1 : ∀ x ∈ p1, x.block < W.heap.size := by obtain ⟨m, hm⟩ := k1; exact DataW.trod_lt m _ _ _ hm
  obtain ⟨a1, len1, cap1, rfl⟩ := okWide_slice Tryd.underlying25 (hval 1 25 v1 rfl rfl)
  obtain ⟨fu1, hf1⟩ := h1
  obtain ⟨z1, ⟨A1, c1, e1, hc1, g1⟩, w1⟩ := (Op.openSlice (d := (Kd.int .i64)) Tryd.underlying25 (by kernel_rfl) (Op.openInt (k := .i64) Tryd.underlying3)) hf1
  cases e1
  clear hA0 hval0 hsz0
  obtain ⟨kk, hk⟩ := Pure.ParamsPartitionParties a0_0 a0_1 a0_2 z1 w0_0 w0_1 w0_2 w1
  refine (privitylaw12_ParamsPartitionParties.calls kk a0_0 a0_1 a0_2 _ _ z1 true W g1 hc1 rfl hX_ hk).mono fun e W' ⟨he, bel⟩ => ?_
  subst he
  exact ⟨_, rfl, _, _, _, [], _, [], hW', trodAll_mk1 (shut_bool Tryd.underlying4 _), (trodAll_cons_mk (Below.trod laidOut (by kernel_rfl) (of_decide_eq_true (by kernel_rfl)) k0 bel lt0) (trodAll_cons_mk (Below.trod laidOut (by kernel_rfl) (of_decide_eq_true (by kernel_rfl)) k1 bel lt1) trodAll_mk0)), rfl, bel.frame _, fun h => by cases h⟩
theorem over : Rows.paramsPartitionPartiesRow.holds Tryd.pinned (OpenSpec.ofChange Rows.paramsPartitionPartiesSpec) :=
  OpenClaim.holds_of_wide 5 Tryd.f5 rfl rfl rfl rfl rfl rfl rfl ⟨rfl, rfl, rfl, rfl, rfl⟩ rfl rfl rfl rfl rfl (by kernel_rfl) Tryd.func5 (by kernel_rfl)
    (of_decide_eq_true (by kernel_rfl)) (by unfold Func.isWrapper; first | (rw [if_pos (by decide +kernel)]; kernel_rfl) | (rw [if_neg (by decide +kernel)]; exact ⟨rfl, rfl⟩))
    (fun os started H enc _ => lifted os started H enc)
theorem proved : Rows.ParamsPartitionPartiesSaid := over
#print axioms proved
end Go.Proofs.YtakaonojfpkhnaaDoor.paramsPartitionParties
namespace Go.Proofs.YtakaonojfpkhnaaDoor
/-- The row, under a short name, for the claim. -/
theorem paramsPartitionParties_holds : Rows.ParamsPartitionPartiesCardSaid :=
  Claim7.holds_tied_plain_at .later [] [.data] true (true, "e89e54b610bb618419dd9e432a54789086f81ccddccae2ed0cfdda57de810b85") false
    paramsPartitionParties.proved (fun _ h => by cases h) (by kernel_rfl) (fun _ h => by cases h) paramsPartitionParties_row_tie rfl ⟨rfl, rfl⟩ (by kernel_rfl) rfl
    (fun f fn hf hfn => by
      obtain rfl : f = 5 := Option.some.inj ((show Tryd.prog.funcNamed "privity/privitylaw12.ParamsPartitionParties" = some 5 by kernel_rfl).symm.trans hf) |>.symm
      obtain rfl : fn = Tryd.f5 := (Option.some.inj (Tryd.func5.symm.trans hfn)).symm
      exact ⟨by kernel_rfl, fun j t ht => by
        rw [Tryd.params5] at ht
        have hm : t ∈ [24, 25] := by simpa using Array.mem_of_getElem? ht
        have hall : ([24, 25].all fun u => !Tryd.prog.wantsStandIn u) = true := by kernel_rfl
        exact (show Tryd.prog.wantsStandIn t = false by simpa using List.all_eq_true.1 hall t hm)⟩)
    (by kernel_rfl)
end Go.Proofs.YtakaonojfpkhnaaDoor
end
