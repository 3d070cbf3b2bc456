/- The row of the law ParamsValidScenarioMatchesReference, out of its plain law and the walk. -/
import Derived.Test.YtakaonojfpkhnaaDoorZValidScenarioMatchesReference5
import Derived.Test.YtakaonojfpkhnaaDoorZValidScenarioMatchesReference4
import Derived.Test.YtakaonojfpkhnaaDoorZValidScenarioMatchesReference1
import Derived.Test.YtakaonojfpkhnaaDoorZValidScenarioMatchesReference2
import Derived.Test.YtakaonojfpkhnaaDoorZValidScenarioMatchesReference3
import Derived.Test.YtakaonojfpkhnaaDoorProg
import Derived.ChangeArms
import Derived.DataReads
import Derived.DataElems
import Derived.ShutString
import Derived.ChangeSame
import Derived.OpenShut
import Derived.Test.YtakaonojfpkhnaaDoorZValidScenarioMatchesReference0
import Derived.Test.YtakaonojfpkhnaaDoorRows
import Derived.Test.YtakaonojfpkhnaaDoorTie
import Derived.Test.YtakaonojfpkhnaaDoorCards
import Derived.SevenTiedAt
import Derived.ProofKit
import Derived.LaidMore
import Derived.Stop.Joined
import Derived.WalkKit
import Derived.ChangeOld
import Derived.Below
import Derived.SizedLaws
section
/-
  awake of the statements of chapter 12, proved by hand.
-/
namespace Go.Proofs.YtakaonojfpkhnaaDoor.Hw
open Go.RowKit Go.Proofs.YtakaonojfpkhnaaDoor.Pr Go.Proofs.YtakaonojfpkhnaaDoorW.PrintWords Go.Proofs.YtakaonojfpkhnaaDoorW.PrintLast Go.Proofs.YtakaonojfpkhnaaDoorW.PrintMore Go.Proofs.YtakaonojfpkhnaaDoor.E
set_option linter.unusedVariables false
set_option linter.unusedSimpArgs false

theorem drawn_below {w w' : World} (h : Drawn0 w w') : Below w.heap.size w w' := by
  obtain ⟨nd, rfl⟩ := h
  exact pw_below_drewN (Below.refl _ _) nd
theorem aw_v1 : params_Valid.f 31 4 1 = some true := by kernel_rfl
theorem aw_v2 : params_Valid.f 31 6 2 = some false := by kernel_rfl
theorem aw_c1 : params_ValidCoalition.f 20 31 4 1 [3] = some true := by kernel_rfl
theorem aw_c2 : params_ValidCoalition.f 20 31 4 1 [3, 4] = some false := by kernel_rfl
theorem aw_e : params_ExtendCoalition.f 31 4 1 [] = some [1] := by kernel_rfl
theorem aw_i1 : privityref12_Ints.f 20 [1] [1] = some true := by kernel_rfl
theorem aw_h : params_HonestParties.f 31 4 1 [3] = some [1, 2, 4] := by kernel_rfl
theorem aw_i2 : privityref12_Ints.f 20 [1, 2, 4] [1, 2, 4] = some true := by kernel_rfl
theorem aw_p : params_VanishingPolynomial.f 40 31 4 1 [3] = some [1, 10] := by kernel_rfl
theorem aw_s : privityref05_Same.f 20 [1, 10] [1, 10] = some true := by kernel_rfl
theorem aw_w : params_ValidScenario.f 31 4 1 [] [] [[], [30], [], []] = some true := by kernel_rfl
theorem aw_x : params_ValidScenario.f 31 4 1 [] [] [[], [31], [], []] = some false := by kernel_rfl
theorem aw_scn (A : Option Addr) (c : Nat) (r : List (List Int)) (b : Bool) (hl : r.length ≤ c) (h : params_ValidScenario.f 31 4 1 [] [] r = some b) (W : World) (hx : Hx W) (hC : Kd.C (Kd.slice 22 (Kd.int .u64)) W A r.length r) :
    Calls Tryd.prog 14 #[.agg #[.int .u64 31, .int .i64 4, .int .i64 1, .slice none 0 0, .slice none 0 0, .slice A r.length c]] W fun e w' => e = .returned (.bool b) ∧ Below W.heap.size W w' :=
  params_ValidScenario.calls 31 4 1 none 0 [] none 0 [] A c r b W (Kd.C_nil _ _) (Nat.le_refl _) (Kd.C_nil _ _) (Nat.le_refl _) hC hl hx h
theorem aw_one3 : (#[.int .u64 31, .int .i64 4, .int .i64 1] : Array Value).all (·.oneCell') = true := by simp only [List.all_toArray, List.all_cons, List.all_nil]; rfl
theorem aw_one6 (A : Option Addr) (n c : Nat) : (#[.int .u64 31, .int .i64 4, .int .i64 1, .slice none 0 0, .slice none 0 0, .slice A n c] : Array Value).all (·.oneCell') = true := by simp only [List.all_toArray, List.all_cons, List.all_nil]; rfl
set_option maxHeartbeats 16000000 in
set_option maxRecDepth 100000 in
theorem awake_walk (w : World) (hx : Hx w) : Calls Tryd.prog 9 #[] w fun e w' => e = .returned (.bool true) ∧ Below w.heap.size w w' := by
  have HX := Aside0.mk hx
  clear hx
  have HB := Aside0.mk (Below.refl w.heap.size w)
  have hz1 : (Tryd.prog.info? 24).map (·.size) = some 3 := by kernel_rfl
  have hz2 : (Tryd.prog.info? 32).map (·.size) = some 6 := by kernel_rfl
  have HZ1 := Aside0.mk hz1
  have HZ2 := Aside0.mk hz2
  clear hz1 hz2
  obtain ⟨y30, hy30⟩ : ∃ y : List Int, y = [30] := ⟨_, rfl⟩
  obtain ⟨y31, hy31⟩ : ∃ y : List Int, y = [31] := ⟨_, rfl⟩
  obtain ⟨y3, hy3⟩ : ∃ y : List Int, y = [3] := ⟨_, rfl⟩
  obtain ⟨y34, hy34⟩ : ∃ y : List Int, y = [3, 4] := ⟨_, rfl⟩
  obtain ⟨y1, hy1⟩ : ∃ y : List Int, y = [1] := ⟨_, rfl⟩
  obtain ⟨y124, hy124⟩ : ∃ y : List Int, y = [1, 2, 4] := ⟨_, rfl⟩
  obtain ⟨y110, hy110⟩ : ∃ y : List Int, y = [1, 10] := ⟨_, rfl⟩
  obtain ⟨r30, hr30⟩ : ∃ y : List (List Int), y = [[], y30, [], []] := ⟨_, rfl⟩
  obtain ⟨r31, hr31⟩ : ∃ y : List (List Int), y = [[], y31, [], []] := ⟨_, rfl⟩
  have Fc1 := Aside0.mk (show params_ValidCoalition.f 20 31 4 1 y3 = some true by rw [hy3]; exact aw_c1)
  have Fc2 := Aside0.mk (show params_ValidCoalition.f 20 31 4 1 y34 = some false by rw [hy34]; exact aw_c2)
  have Fe := Aside0.mk (show params_ExtendCoalition.f 31 4 1 [] = some y1 by rw [hy1]; exact aw_e)
  have Fi1 := Aside0.mk (show privityref12_Ints.f 20 y1 y1 = some true by rw [hy1]; exact aw_i1)
  have Fh := Aside0.mk (show params_HonestParties.f 31 4 1 y3 = some y124 by rw [hy3, hy124]; exact aw_h)
  have Fi2 := Aside0.mk (show privityref12_Ints.f 20 y124 y124 = some true by rw [hy124]; exact aw_i2)
  have Fp := Aside0.mk (show params_VanishingPolynomial.f 40 31 4 1 y3 = some y110 by rw [hy3, hy110]; exact aw_p)
  have Fs := Aside0.mk (show privityref05_Same.f 20 y110 y110 = some true by rw [hy110]; exact aw_s)
  have Fw := Aside0.mk (show params_ValidScenario.f 31 4 1 [] [] r30 = some true by rw [hr30, hy30]; exact aw_w)
  have Fx := Aside0.mk (show params_ValidScenario.f 31 4 1 [] [] r31 = some false by rw [hr31, hy31]; exact aw_x)
  have Ny30 := Aside0.mk hy30
  have Ny31 := Aside0.mk hy31
  have Ny3 := Aside0.mk hy3
  have Ny34 := Aside0.mk hy34
  have Ny1 := Aside0.mk hy1
  have Ny124 := Aside0.mk hy124
  have Ny110 := Aside0.mk hy110
  have Nr30 := Aside0.mk hr30
  have Nr31 := Aside0.mk hr31
  clear hy30 hy31 hy3 hy34 hy1 hy124 hy110 hr30 hr31
  go_enter Tryd.func9, Tryd.ntmps9
  go_wp2_with (first
    | ((with_reducible refine gate_dst (N := 1) rfl ?_); refine box_event ?hg (N := 1) ?hd (cs := #[.int .u64 0, .int .i64 0, .int .i64 0]) (t := 24) ?hr ?_; (case hd => rfl); (case hg => rfl); (case hr => first | (go_simp; done) | (go_simp; rfl)); intro g1 hg w101 hbox hb; have GE := Aside0.mk (show w.heap.size ≤ g1 from Nat.le_of_eq hg.symm); have BP := Aside0.mk hb; have BK1 := Aside0.mk hbox; clear hbox hb hg)
    | ((with_reducible refine gate_store (p := 1) rfl ?_); refine st_row rfl 24 (.tmp 1) (.tmp 4) rfl g1 #[.int .u64 31, .int .i64 4, .int .i64 1] (by rfl) (by rfl) 24 #[.int .u64 0, .int .i64 0, .int .i64 0] BK1.out HZ1.out rfl (aw_one3) ?_; intro w102 hbk hbw hbo; have hb := hbw _ _ GE.out BP.out; clear BP GE hbw hbo; have m_HB := Aside0.mk (below_step HB.out hb); clear HB; have HB := m_HB; clear m_HB; clear BK1; have BK1 := Aside0.mk hbk; clear hb hbk; (try clear q0 q1 q2); have q0 : w102.cell? ⟨g1, 0, none⟩ = some (.int .u64 31) := (blk_cell BK1.out 0).trans rfl; have q1 : w102.cell? ⟨g1, 1, none⟩ = some (.int .i64 4) := (blk_cell BK1.out 1).trans rfl; have q2 : w102.cell? ⟨g1, 2, none⟩ = some (.int .i64 1) := (blk_cell BK1.out 2).trans rfl)
    | ((with_reducible refine gate_dst (N := 6) rfl ?_); (try (refine gate_guard (by rfl) ?_; dsimp only)); refine Kd.R_lit (Kd.int .u64) _ 22 ?hg (N := 6) ?hd (xs := ([30] : List Int)) (inner := [.int .u64 30]) (ok := fun _ => True) (okp := fun _ => True) ?hr ?hp (fun _ hk => hk) trivial (Below.refl _ _) (Nat.le_refl _) (by simp) ?_; (case hd => rfl); (case hg => rfl); (case hr => first | (go_simp; done) | (go_simp; rfl)); (case hp => exact (Reps.one (show Kd.M (Kd.int .u64) _ _ _ 30 [.int .u64 30] from rfl) (Reps.none _ _))); intro v6 w103 ho hb hg_ hnew_; clear hg_ hnew_; (first | rw [← Ny30.out] at ho | (simp only [Int.reduceToNat] at ho; rw [← Ny30.out] at ho)); obtain ⟨A6, c6, e6⟩ := Kd.R_slice ho; subst e6; have C6 := Aside0.mk (Kd.R_reads' ho).2.2; have L6 := Aside0.mk (Kd.R_reads' ho).2.1; have HO6 := Aside0.mk (Kd.R_lower ho (below_size HB.out)); have m_HB := Aside0.mk (below_step HB.out hb); have m_BK1 := Aside0.mk (blk_below BK1.out hb); clear HB; have HB := m_HB; clear m_HB; clear BK1; have BK1 := m_BK1; clear m_BK1; clear ho hb; (try clear q0 q1 q2); have q0 : w103.cell? ⟨g1, 0, none⟩ = some (.int .u64 31) := (blk_cell BK1.out 0).trans rfl; have q1 : w103.cell? ⟨g1, 1, none⟩ = some (.int .i64 4) := (blk_cell BK1.out 1).trans rfl; have q2 : w103.cell? ⟨g1, 2, none⟩ = some (.int .i64 1) := (blk_cell BK1.out 2).trans rfl)
    | ((with_reducible refine gate_dst (N := 7) rfl ?_); (try (refine gate_guard (by rfl) ?_; dsimp only)); refine Kd.N_lit (Kd.slice 22 (Kd.int .u64)) _ 33 ?hg (N' := 7) ?hd (xs := ([[], y30, [], []] : List (List Int))) (inner := [.slice none 0 0, .slice A6 y30.length c6, .slice none 0 0, .slice none 0 0]) (ok := fun _ => True) (okp := fun _ => True) ?hr ?hp (fun _ hk => hk) trivial (Below.refl _ _) (Nat.le_refl _) (by simp) ?_; (case hd => rfl); (case hg => rfl); (case hr => first | (go_simp; done) | (go_simp; rfl)); (case hp => exact (Reps.one (show Kd.FK (Kd.slice 22 (Kd.int .u64)) _ _ [] [.slice none 0 0] from (Kd.FK_slice_mk (Nat.le_refl _) (Kd.F_nil _ _ _))) (Reps.one (show Kd.FK (Kd.slice 22 (Kd.int .u64)) _ _ y30 [.slice A6 y30.length c6] from (Kd.FK_slice_mk (Kd.R_reads' HO6.out).2.1 (Kd.R_F HO6.out))) (Reps.one (show Kd.FK (Kd.slice 22 (Kd.int .u64)) _ _ [] [.slice none 0 0] from (Kd.FK_slice_mk (Nat.le_refl _) (Kd.F_nil _ _ _))) (Reps.one (show Kd.FK (Kd.slice 22 (Kd.int .u64)) _ _ [] [.slice none 0 0] from (Kd.FK_slice_mk (Nat.le_refl _) (Kd.F_nil _ _ _))) (Reps.none _ _)))))); intro v7 w104 ho hb hg_ hnew_; clear hg_ hnew_; (first | rw [← Nr30.out] at ho | (simp only [Int.reduceToNat] at ho; rw [← Nr30.out] at ho)); obtain ⟨A7, c7, e7⟩ := Kd.N_slice ho; subst e7; have C7 := Aside0.mk (Kd.N_reads' ho).2.2; have L7 := Aside0.mk (Kd.N_reads' ho).2.1; have m_HB := Aside0.mk (below_step HB.out hb); have m_BK1 := Aside0.mk (blk_below BK1.out hb); clear HB; have HB := m_HB; clear m_HB; clear BK1; have BK1 := m_BK1; clear m_BK1; clear ho hb HO6; (try clear q0 q1 q2); have q0 : w104.cell? ⟨g1, 0, none⟩ = some (.int .u64 31) := (blk_cell BK1.out 0).trans rfl; have q1 : w104.cell? ⟨g1, 1, none⟩ = some (.int .i64 4) := (blk_cell BK1.out 1).trans rfl; have q2 : w104.cell? ⟨g1, 2, none⟩ = some (.int .i64 1) := (blk_cell BK1.out 2).trans rfl)
    | ((with_reducible refine gate_dst (N := 2) rfl ?_); refine box_event ?hg (N := 2) ?hd (cs := #[.int .u64 0, .int .i64 0, .int .i64 0, .slice none 0 0, .slice none 0 0, .slice none 0 0]) (t := 32) ?hr ?_; (case hd => rfl); (case hg => rfl); (case hr => first | (go_simp; done) | (go_simp; rfl)); intro g2 hg w105 hbox hb; have GE := Aside0.mk (show w104.heap.size ≤ g2 from Nat.le_of_eq hg.symm); have BP := Aside0.mk hb; have BK2 := Aside0.mk hbox; clear hbox hb hg)
    | ((with_reducible refine gate_store (p := 2) rfl ?_); refine st_row rfl 32 (.tmp 2) (.tmp 8) rfl g2 #[.int .u64 31, .int .i64 4, .int .i64 1, .slice none 0 0, .slice none 0 0, .slice A7 r30.length c7] (by rfl) (by rfl) 32 #[.int .u64 0, .int .i64 0, .int .i64 0, .slice none 0 0, .slice none 0 0, .slice none 0 0] BK2.out HZ2.out rfl (aw_one6 _ _ _) ?_; intro w106 hbk hbw hbo; have hb := hbw _ _ GE.out BP.out; clear BP GE hbw hbo; have m_HB := Aside0.mk (below_step HB.out hb); have m_BK1 := Aside0.mk (blk_below BK1.out hb); have m_C7 := Aside0.mk (Kd.C_below C7.out hb); clear HB; have HB := m_HB; clear m_HB; clear BK1; have BK1 := m_BK1; clear m_BK1; clear C7; have C7 := m_C7; clear m_C7; clear BK2; have BK2 := Aside0.mk hbk; clear hb hbk; (try clear q0 q1 q2); have q0 : w106.cell? ⟨g1, 0, none⟩ = some (.int .u64 31) := (blk_cell BK1.out 0).trans rfl; have q1 : w106.cell? ⟨g1, 1, none⟩ = some (.int .i64 4) := (blk_cell BK1.out 1).trans rfl; have q2 : w106.cell? ⟨g1, 2, none⟩ = some (.int .i64 1) := (blk_cell BK1.out 2).trans rfl)
    | ((with_reducible refine gate_dst (N := 10) rfl ?_); (try (refine gate_guard (by rfl) ?_; dsimp only)); refine Kd.R_lit (Kd.int .u64) _ 22 ?hg (N := 10) ?hd (xs := ([31] : List Int)) (inner := [.int .u64 31]) (ok := fun _ => True) (okp := fun _ => True) ?hr ?hp (fun _ hk => hk) trivial (Below.refl _ _) (Nat.le_refl _) (by simp) ?_; (case hd => rfl); (case hg => rfl); (case hr => first | (go_simp; done) | (go_simp; rfl)); (case hp => exact (Reps.one (show Kd.M (Kd.int .u64) _ _ _ 31 [.int .u64 31] from rfl) (Reps.none _ _))); intro v10 w107 ho hb hg_ hnew_; clear hg_ hnew_; (first | rw [← Ny31.out] at ho | (simp only [Int.reduceToNat] at ho; rw [← Ny31.out] at ho)); obtain ⟨A10, c10, e10⟩ := Kd.R_slice ho; subst e10; have C10 := Aside0.mk (Kd.R_reads' ho).2.2; have L10 := Aside0.mk (Kd.R_reads' ho).2.1; have HO10 := Aside0.mk (Kd.R_lower ho (below_size HB.out)); have m_HB := Aside0.mk (below_step HB.out hb); have m_BK1 := Aside0.mk (blk_below BK1.out hb); have m_C7 := Aside0.mk (Kd.C_below C7.out hb); have m_BK2 := Aside0.mk (blk_below BK2.out hb); clear HB; have HB := m_HB; clear m_HB; clear BK1; have BK1 := m_BK1; clear m_BK1; clear C7; have C7 := m_C7; clear m_C7; clear BK2; have BK2 := m_BK2; clear m_BK2; clear ho hb; (try clear q0 q1 q2); have q0 : w107.cell? ⟨g1, 0, none⟩ = some (.int .u64 31) := (blk_cell BK1.out 0).trans rfl; have q1 : w107.cell? ⟨g1, 1, none⟩ = some (.int .i64 4) := (blk_cell BK1.out 1).trans rfl; have q2 : w107.cell? ⟨g1, 2, none⟩ = some (.int .i64 1) := (blk_cell BK1.out 2).trans rfl)
    | ((with_reducible refine gate_dst (N := 11) rfl ?_); (try (refine gate_guard (by rfl) ?_; dsimp only)); refine Kd.N_lit (Kd.slice 22 (Kd.int .u64)) _ 33 ?hg (N' := 11) ?hd (xs := ([[], y31, [], []] : List (List Int))) (inner := [.slice none 0 0, .slice A10 y31.length c10, .slice none 0 0, .slice none 0 0]) (ok := fun _ => True) (okp := fun _ => True) ?hr ?hp (fun _ hk => hk) trivial (Below.refl _ _) (Nat.le_refl _) (by simp) ?_; (case hd => rfl); (case hg => rfl); (case hr => first | (go_simp; done) | (go_simp; rfl)); (case hp => exact (Reps.one (show Kd.FK (Kd.slice 22 (Kd.int .u64)) _ _ [] [.slice none 0 0] from (Kd.FK_slice_mk (Nat.le_refl _) (Kd.F_nil _ _ _))) (Reps.one (show Kd.FK (Kd.slice 22 (Kd.int .u64)) _ _ y31 [.slice A10 y31.length c10] from (Kd.FK_slice_mk (Kd.R_reads' HO10.out).2.1 (Kd.R_F HO10.out))) (Reps.one (show Kd.FK (Kd.slice 22 (Kd.int .u64)) _ _ [] [.slice none 0 0] from (Kd.FK_slice_mk (Nat.le_refl _) (Kd.F_nil _ _ _))) (Reps.one (show Kd.FK (Kd.slice 22 (Kd.int .u64)) _ _ [] [.slice none 0 0] from (Kd.FK_slice_mk (Nat.le_refl _) (Kd.F_nil _ _ _))) (Reps.none _ _)))))); intro v11 w108 ho hb hg_ hnew_; clear hg_ hnew_; (first | rw [← Nr31.out] at ho | (simp only [Int.reduceToNat] at ho; rw [← Nr31.out] at ho)); obtain ⟨A11, c11, e11⟩ := Kd.N_slice ho; subst e11; have C11 := Aside0.mk (Kd.N_reads' ho).2.2; have L11 := Aside0.mk (Kd.N_reads' ho).2.1; have m_HB := Aside0.mk (below_step HB.out hb); have m_BK1 := Aside0.mk (blk_below BK1.out hb); have m_C7 := Aside0.mk (Kd.C_below C7.out hb); have m_BK2 := Aside0.mk (blk_below BK2.out hb); clear HB; have HB := m_HB; clear m_HB; clear BK1; have BK1 := m_BK1; clear m_BK1; clear C7; have C7 := m_C7; clear m_C7; clear BK2; have BK2 := m_BK2; clear m_BK2; clear ho hb HO10; (try clear q0 q1 q2); have q0 : w108.cell? ⟨g1, 0, none⟩ = some (.int .u64 31) := (blk_cell BK1.out 0).trans rfl; have q1 : w108.cell? ⟨g1, 1, none⟩ = some (.int .i64 4) := (blk_cell BK1.out 1).trans rfl; have q2 : w108.cell? ⟨g1, 2, none⟩ = some (.int .i64 1) := (blk_cell BK1.out 2).trans rfl)
    | ((with_reducible refine gate_dst (N := 3) rfl ?_); refine box_event ?hg (N := 3) ?hd (cs := #[.int .u64 0, .int .i64 0, .int .i64 0, .slice none 0 0, .slice none 0 0, .slice none 0 0]) (t := 32) ?hr ?_; (case hd => rfl); (case hg => rfl); (case hr => first | (go_simp; done) | (go_simp; rfl)); intro g3 hg w109 hbox hb; have GE := Aside0.mk (show w108.heap.size ≤ g3 from Nat.le_of_eq hg.symm); have BP := Aside0.mk hb; have BK3 := Aside0.mk hbox; clear hbox hb hg)
    | ((with_reducible refine gate_store (p := 3) rfl ?_); refine st_row rfl 32 (.tmp 3) (.tmp 12) rfl g3 #[.int .u64 31, .int .i64 4, .int .i64 1, .slice none 0 0, .slice none 0 0, .slice A11 r31.length c11] (by rfl) (by rfl) 32 #[.int .u64 0, .int .i64 0, .int .i64 0, .slice none 0 0, .slice none 0 0, .slice none 0 0] BK3.out HZ2.out rfl (aw_one6 _ _ _) ?_; intro w110 hbk hbw hbo; have hb := hbw _ _ GE.out BP.out; clear BP GE hbw hbo; have m_HB := Aside0.mk (below_step HB.out hb); have m_BK1 := Aside0.mk (blk_below BK1.out hb); have m_C7 := Aside0.mk (Kd.C_below C7.out hb); have m_BK2 := Aside0.mk (blk_below BK2.out hb); have m_C11 := Aside0.mk (Kd.C_below C11.out hb); clear HB; have HB := m_HB; clear m_HB; clear BK1; have BK1 := m_BK1; clear m_BK1; clear C7; have C7 := m_C7; clear m_C7; clear BK2; have BK2 := m_BK2; clear m_BK2; clear C11; have C11 := m_C11; clear m_C11; clear BK3; have BK3 := Aside0.mk hbk; clear hb hbk; (try clear q0 q1 q2); have q0 : w110.cell? ⟨g1, 0, none⟩ = some (.int .u64 31) := (blk_cell BK1.out 0).trans rfl; have q1 : w110.cell? ⟨g1, 1, none⟩ = some (.int .i64 4) := (blk_cell BK1.out 1).trans rfl; have q2 : w110.cell? ⟨g1, 2, none⟩ = some (.int .i64 1) := (blk_cell BK1.out 2).trans rfl)
    | (go_at_call 10; (with_reducible refine (params_Valid.calls 31 4 1 true _ (Hx_below HX.out HB.out) aw_v1).mono ?_); rintro e w111 ⟨rfl, hb⟩; have m_HB := Aside0.mk (below_step HB.out hb); have m_BK1 := Aside0.mk (blk_below BK1.out hb); have m_C7 := Aside0.mk (Kd.C_below C7.out hb); have m_BK2 := Aside0.mk (blk_below BK2.out hb); have m_C11 := Aside0.mk (Kd.C_below C11.out hb); have m_BK3 := Aside0.mk (blk_below BK3.out hb); clear HB; have HB := m_HB; clear m_HB; clear BK1; have BK1 := m_BK1; clear m_BK1; clear C7; have C7 := m_C7; clear m_C7; clear BK2; have BK2 := m_BK2; clear m_BK2; clear C11; have C11 := m_C11; clear m_C11; clear BK3; have BK3 := m_BK3; clear m_BK3; clear hb; (try clear q0 q1 q2); have q0 : w111.cell? ⟨g1, 0, none⟩ = some (.int .u64 31) := (blk_cell BK1.out 0).trans rfl; have q1 : w111.cell? ⟨g1, 1, none⟩ = some (.int .i64 4) := (blk_cell BK1.out 1).trans rfl; have q2 : w111.cell? ⟨g1, 2, none⟩ = some (.int .i64 1) := (blk_cell BK1.out 2).trans rfl)
    | (go_at_call 10; (with_reducible refine (params_Valid.calls 31 6 2 false _ (Hx_below HX.out HB.out) aw_v2).mono ?_); rintro e w112 ⟨rfl, hb⟩; have m_HB := Aside0.mk (below_step HB.out hb); have m_BK1 := Aside0.mk (blk_below BK1.out hb); have m_C7 := Aside0.mk (Kd.C_below C7.out hb); have m_BK2 := Aside0.mk (blk_below BK2.out hb); have m_C11 := Aside0.mk (Kd.C_below C11.out hb); have m_BK3 := Aside0.mk (blk_below BK3.out hb); clear HB; have HB := m_HB; clear m_HB; clear BK1; have BK1 := m_BK1; clear m_BK1; clear C7; have C7 := m_C7; clear m_C7; clear BK2; have BK2 := m_BK2; clear m_BK2; clear C11; have C11 := m_C11; clear m_C11; clear BK3; have BK3 := m_BK3; clear m_BK3; clear hb; (try clear q0 q1 q2); have q0 : w112.cell? ⟨g1, 0, none⟩ = some (.int .u64 31) := (blk_cell BK1.out 0).trans rfl; have q1 : w112.cell? ⟨g1, 1, none⟩ = some (.int .i64 4) := (blk_cell BK1.out 1).trans rfl; have q2 : w112.cell? ⟨g1, 2, none⟩ = some (.int .i64 1) := (blk_cell BK1.out 2).trans rfl)
    | ((with_reducible refine gate_dst (N := 22) rfl ?_); (try (refine gate_guard (by rfl) ?_; dsimp only)); refine Kd.R_lit (Kd.int .i64) _ 3 ?hg (N := 22) ?hd (xs := ([3] : List Int)) (inner := [.int .i64 3]) (ok := fun _ => True) (okp := fun _ => True) ?hr ?hp (fun _ hk => hk) trivial (Below.refl _ _) (Nat.le_refl _) (by simp) ?_; (case hd => rfl); (case hg => rfl); (case hr => first | (go_simp; done) | (go_simp; rfl)); (case hp => exact (Reps.one (show Kd.M (Kd.int .i64) _ _ _ 3 [.int .i64 3] from rfl) (Reps.none _ _))); intro v22 w113 ho hb hg_ hnew_; clear hg_ hnew_; (first | rw [← Ny3.out] at ho | (simp only [Int.reduceToNat] at ho; rw [← Ny3.out] at ho)); obtain ⟨A22, c22, e22⟩ := Kd.R_slice ho; subst e22; have C22 := Aside0.mk (Kd.R_reads' ho).2.2; have L22 := Aside0.mk (Kd.R_reads' ho).2.1; have m_HB := Aside0.mk (below_step HB.out hb); have m_BK1 := Aside0.mk (blk_below BK1.out hb); have m_C7 := Aside0.mk (Kd.C_below C7.out hb); have m_BK2 := Aside0.mk (blk_below BK2.out hb); have m_C11 := Aside0.mk (Kd.C_below C11.out hb); have m_BK3 := Aside0.mk (blk_below BK3.out hb); clear HB; have HB := m_HB; clear m_HB; clear BK1; have BK1 := m_BK1; clear m_BK1; clear C7; have C7 := m_C7; clear m_C7; clear BK2; have BK2 := m_BK2; clear m_BK2; clear C11; have C11 := m_C11; clear m_C11; clear BK3; have BK3 := m_BK3; clear m_BK3; clear ho hb; (try clear q0 q1 q2); have q0 : w113.cell? ⟨g1, 0, none⟩ = some (.int .u64 31) := (blk_cell BK1.out 0).trans rfl; have q1 : w113.cell? ⟨g1, 1, none⟩ = some (.int .i64 4) := (blk_cell BK1.out 1).trans rfl; have q2 : w113.cell? ⟨g1, 2, none⟩ = some (.int .i64 1) := (blk_cell BK1.out 2).trans rfl)
    | (go_at_call 12; (with_reducible refine (params_ValidCoalition.calls 20 31 4 1 A22 c22 y3 true _ C22.out L22.out (Hx_below HX.out HB.out) Fc1.out).mono ?_); rintro e w114 ⟨rfl, hb⟩; have m_HB := Aside0.mk (below_step HB.out hb); have m_BK1 := Aside0.mk (blk_below BK1.out hb); have m_C7 := Aside0.mk (Kd.C_below C7.out hb); have m_BK2 := Aside0.mk (blk_below BK2.out hb); have m_C11 := Aside0.mk (Kd.C_below C11.out hb); have m_BK3 := Aside0.mk (blk_below BK3.out hb); clear HB; have HB := m_HB; clear m_HB; clear BK1; have BK1 := m_BK1; clear m_BK1; clear C7; have C7 := m_C7; clear m_C7; clear BK2; have BK2 := m_BK2; clear m_BK2; clear C11; have C11 := m_C11; clear m_C11; clear BK3; have BK3 := m_BK3; clear m_BK3; clear hb; (try clear q0 q1 q2); have q0 : w114.cell? ⟨g1, 0, none⟩ = some (.int .u64 31) := (blk_cell BK1.out 0).trans rfl; have q1 : w114.cell? ⟨g1, 1, none⟩ = some (.int .i64 4) := (blk_cell BK1.out 1).trans rfl; have q2 : w114.cell? ⟨g1, 2, none⟩ = some (.int .i64 1) := (blk_cell BK1.out 2).trans rfl)
    | ((with_reducible refine gate_dst (N := 27) rfl ?_); (try (refine gate_guard (by rfl) ?_; dsimp only)); refine Kd.R_lit (Kd.int .i64) _ 3 ?hg (N := 27) ?hd (xs := ([3, 4] : List Int)) (inner := [.int .i64 3, .int .i64 4]) (ok := fun _ => True) (okp := fun _ => True) ?hr ?hp (fun _ hk => hk) trivial (Below.refl _ _) (Nat.le_refl _) (by simp) ?_; (case hd => rfl); (case hg => rfl); (case hr => first | (go_simp; done) | (go_simp; rfl)); (case hp => exact (Reps.one (show Kd.M (Kd.int .i64) _ _ _ 3 [.int .i64 3] from rfl) (Reps.one (show Kd.M (Kd.int .i64) _ _ _ 4 [.int .i64 4] from rfl) (Reps.none _ _)))); intro v27 w115 ho hb hg_ hnew_; clear hg_ hnew_; (first | rw [← Ny34.out] at ho | (simp only [Int.reduceToNat] at ho; rw [← Ny34.out] at ho)); obtain ⟨A27, c27, e27⟩ := Kd.R_slice ho; subst e27; have C27 := Aside0.mk (Kd.R_reads' ho).2.2; have L27 := Aside0.mk (Kd.R_reads' ho).2.1; have m_HB := Aside0.mk (below_step HB.out hb); have m_BK1 := Aside0.mk (blk_below BK1.out hb); have m_C7 := Aside0.mk (Kd.C_below C7.out hb); have m_BK2 := Aside0.mk (blk_below BK2.out hb); have m_C11 := Aside0.mk (Kd.C_below C11.out hb); have m_BK3 := Aside0.mk (blk_below BK3.out hb); clear HB; have HB := m_HB; clear m_HB; clear BK1; have BK1 := m_BK1; clear m_BK1; clear C7; have C7 := m_C7; clear m_C7; clear BK2; have BK2 := m_BK2; clear m_BK2; clear C11; have C11 := m_C11; clear m_C11; clear BK3; have BK3 := m_BK3; clear m_BK3; clear ho hb; (try clear q0 q1 q2); have q0 : w115.cell? ⟨g1, 0, none⟩ = some (.int .u64 31) := (blk_cell BK1.out 0).trans rfl; have q1 : w115.cell? ⟨g1, 1, none⟩ = some (.int .i64 4) := (blk_cell BK1.out 1).trans rfl; have q2 : w115.cell? ⟨g1, 2, none⟩ = some (.int .i64 1) := (blk_cell BK1.out 2).trans rfl)
    | (go_at_call 12; (with_reducible refine (params_ValidCoalition.calls 20 31 4 1 A27 c27 y34 false _ C27.out L27.out (Hx_below HX.out HB.out) Fc2.out).mono ?_); rintro e w116 ⟨rfl, hb⟩; have m_HB := Aside0.mk (below_step HB.out hb); have m_BK1 := Aside0.mk (blk_below BK1.out hb); have m_C7 := Aside0.mk (Kd.C_below C7.out hb); have m_BK2 := Aside0.mk (blk_below BK2.out hb); have m_C11 := Aside0.mk (Kd.C_below C11.out hb); have m_BK3 := Aside0.mk (blk_below BK3.out hb); clear HB; have HB := m_HB; clear m_HB; clear BK1; have BK1 := m_BK1; clear m_BK1; clear C7; have C7 := m_C7; clear m_C7; clear BK2; have BK2 := m_BK2; clear m_BK2; clear C11; have C11 := m_C11; clear m_C11; clear BK3; have BK3 := m_BK3; clear m_BK3; clear hb; (try clear q0 q1 q2); have q0 : w116.cell? ⟨g1, 0, none⟩ = some (.int .u64 31) := (blk_cell BK1.out 0).trans rfl; have q1 : w116.cell? ⟨g1, 1, none⟩ = some (.int .i64 4) := (blk_cell BK1.out 1).trans rfl; have q2 : w116.cell? ⟨g1, 2, none⟩ = some (.int .i64 1) := (blk_cell BK1.out 2).trans rfl)
    | (go_at_call 16; (refine (params_ExtendCoalition.calls 31 4 1 none 0 [] y1 _ (Kd.C_nil _ _) (Nat.le_refl _) Fe.out).mono ?_); rintro e w117 ⟨v33, rfl, ho, hb⟩; obtain ⟨A33, c33, e33⟩ := Kd.R_slice ho; subst e33; have C33 := Aside0.mk (Kd.R_reads' ho).2.2; have L33 := Aside0.mk (Kd.R_reads' ho).2.1; clear ho; have m_HB := Aside0.mk (below_step HB.out hb); have m_BK1 := Aside0.mk (blk_below BK1.out hb); have m_C7 := Aside0.mk (Kd.C_below C7.out hb); have m_BK2 := Aside0.mk (blk_below BK2.out hb); have m_C11 := Aside0.mk (Kd.C_below C11.out hb); have m_BK3 := Aside0.mk (blk_below BK3.out hb); clear HB; have HB := m_HB; clear m_HB; clear BK1; have BK1 := m_BK1; clear m_BK1; clear C7; have C7 := m_C7; clear m_C7; clear BK2; have BK2 := m_BK2; clear m_BK2; clear C11; have C11 := m_C11; clear m_C11; clear BK3; have BK3 := m_BK3; clear m_BK3; clear hb; (try clear q0 q1 q2); have q0 : w117.cell? ⟨g1, 0, none⟩ = some (.int .u64 31) := (blk_cell BK1.out 0).trans rfl; have q1 : w117.cell? ⟨g1, 1, none⟩ = some (.int .i64 4) := (blk_cell BK1.out 1).trans rfl; have q2 : w117.cell? ⟨g1, 2, none⟩ = some (.int .i64 1) := (blk_cell BK1.out 2).trans rfl)
    | ((with_reducible refine gate_dst (N := 34) rfl ?_); (try (refine gate_guard (by rfl) ?_; dsimp only)); refine Kd.R_lit (Kd.int .i64) _ 3 ?hg (N := 34) ?hd (xs := ([1] : List Int)) (inner := [.int .i64 1]) (ok := fun _ => True) (okp := fun _ => True) ?hr ?hp (fun _ hk => hk) trivial (Below.refl _ _) (Nat.le_refl _) (by simp) ?_; (case hd => rfl); (case hg => rfl); (case hr => first | (go_simp; done) | (go_simp; rfl)); (case hp => exact (Reps.one (show Kd.M (Kd.int .i64) _ _ _ 1 [.int .i64 1] from rfl) (Reps.none _ _))); intro v34 w118 ho hb hg_ hnew_; clear hg_ hnew_; (first | rw [← Ny1.out] at ho | (simp only [Int.reduceToNat] at ho; rw [← Ny1.out] at ho)); obtain ⟨A34, c34, e34⟩ := Kd.R_slice ho; subst e34; have C34 := Aside0.mk (Kd.R_reads' ho).2.2; have L34 := Aside0.mk (Kd.R_reads' ho).2.1; have m_HB := Aside0.mk (below_step HB.out hb); have m_BK1 := Aside0.mk (blk_below BK1.out hb); have m_C7 := Aside0.mk (Kd.C_below C7.out hb); have m_BK2 := Aside0.mk (blk_below BK2.out hb); have m_C11 := Aside0.mk (Kd.C_below C11.out hb); have m_BK3 := Aside0.mk (blk_below BK3.out hb); have m_C33 := Aside0.mk (Kd.C_below C33.out hb); clear HB; have HB := m_HB; clear m_HB; clear BK1; have BK1 := m_BK1; clear m_BK1; clear C7; have C7 := m_C7; clear m_C7; clear BK2; have BK2 := m_BK2; clear m_BK2; clear C11; have C11 := m_C11; clear m_C11; clear BK3; have BK3 := m_BK3; clear m_BK3; clear C33; have C33 := m_C33; clear m_C33; clear ho hb; (try clear q0 q1 q2); have q0 : w118.cell? ⟨g1, 0, none⟩ = some (.int .u64 31) := (blk_cell BK1.out 0).trans rfl; have q1 : w118.cell? ⟨g1, 1, none⟩ = some (.int .i64 4) := (blk_cell BK1.out 1).trans rfl; have q2 : w118.cell? ⟨g1, 2, none⟩ = some (.int .i64 1) := (blk_cell BK1.out 2).trans rfl)
    | (go_at_call 18; (with_reducible refine (privityref12_Ints.calls 20 A33 c33 y1 A34 c34 y1 true _ C33.out L33.out C34.out L34.out Fi1.out).mono ?_); rintro e w119 ⟨rfl, hd⟩; have hb := drawn_below hd; clear hd; have m_HB := Aside0.mk (below_step HB.out hb); have m_BK1 := Aside0.mk (blk_below BK1.out hb); have m_C7 := Aside0.mk (Kd.C_below C7.out hb); have m_BK2 := Aside0.mk (blk_below BK2.out hb); have m_C11 := Aside0.mk (Kd.C_below C11.out hb); have m_BK3 := Aside0.mk (blk_below BK3.out hb); clear HB; have HB := m_HB; clear m_HB; clear BK1; have BK1 := m_BK1; clear m_BK1; clear C7; have C7 := m_C7; clear m_C7; clear BK2; have BK2 := m_BK2; clear m_BK2; clear C11; have C11 := m_C11; clear m_C11; clear BK3; have BK3 := m_BK3; clear m_BK3; clear hb; (try clear q0 q1 q2); have q0 : w119.cell? ⟨g1, 0, none⟩ = some (.int .u64 31) := (blk_cell BK1.out 0).trans rfl; have q1 : w119.cell? ⟨g1, 1, none⟩ = some (.int .i64 4) := (blk_cell BK1.out 1).trans rfl; have q2 : w119.cell? ⟨g1, 2, none⟩ = some (.int .i64 1) := (blk_cell BK1.out 2).trans rfl)
    | ((with_reducible refine gate_dst (N := 39) rfl ?_); (try (refine gate_guard (by rfl) ?_; dsimp only)); refine Kd.R_lit (Kd.int .i64) _ 3 ?hg (N := 39) ?hd (xs := ([3] : List Int)) (inner := [.int .i64 3]) (ok := fun _ => True) (okp := fun _ => True) ?hr ?hp (fun _ hk => hk) trivial (Below.refl _ _) (Nat.le_refl _) (by simp) ?_; (case hd => rfl); (case hg => rfl); (case hr => first | (go_simp; done) | (go_simp; rfl)); (case hp => exact (Reps.one (show Kd.M (Kd.int .i64) _ _ _ 3 [.int .i64 3] from rfl) (Reps.none _ _))); intro v39 w120 ho hb hg_ hnew_; clear hg_ hnew_; (first | rw [← Ny3.out] at ho | (simp only [Int.reduceToNat] at ho; rw [← Ny3.out] at ho)); obtain ⟨A39, c39, e39⟩ := Kd.R_slice ho; subst e39; have C39 := Aside0.mk (Kd.R_reads' ho).2.2; have L39 := Aside0.mk (Kd.R_reads' ho).2.1; have m_HB := Aside0.mk (below_step HB.out hb); have m_BK1 := Aside0.mk (blk_below BK1.out hb); have m_C7 := Aside0.mk (Kd.C_below C7.out hb); have m_BK2 := Aside0.mk (blk_below BK2.out hb); have m_C11 := Aside0.mk (Kd.C_below C11.out hb); have m_BK3 := Aside0.mk (blk_below BK3.out hb); clear HB; have HB := m_HB; clear m_HB; clear BK1; have BK1 := m_BK1; clear m_BK1; clear C7; have C7 := m_C7; clear m_C7; clear BK2; have BK2 := m_BK2; clear m_BK2; clear C11; have C11 := m_C11; clear m_C11; clear BK3; have BK3 := m_BK3; clear m_BK3; clear ho hb; (try clear q0 q1 q2); have q0 : w120.cell? ⟨g1, 0, none⟩ = some (.int .u64 31) := (blk_cell BK1.out 0).trans rfl; have q1 : w120.cell? ⟨g1, 1, none⟩ = some (.int .i64 4) := (blk_cell BK1.out 1).trans rfl; have q2 : w120.cell? ⟨g1, 2, none⟩ = some (.int .i64 1) := (blk_cell BK1.out 2).trans rfl)
    | (go_at_call 17; (with_reducible refine (params_HonestParties.calls 31 4 1 A39 c39 y3 y124 _ C39.out L39.out Fh.out).mono ?_); rintro e w121 ⟨v40, rfl, ho, hb⟩; obtain ⟨A40, c40, e40⟩ := Kd.R_slice ho; subst e40; have C40 := Aside0.mk (Kd.R_reads' ho).2.2; have L40 := Aside0.mk (Kd.R_reads' ho).2.1; clear ho; have m_HB := Aside0.mk (below_step HB.out hb); have m_BK1 := Aside0.mk (blk_below BK1.out hb); have m_C7 := Aside0.mk (Kd.C_below C7.out hb); have m_BK2 := Aside0.mk (blk_below BK2.out hb); have m_C11 := Aside0.mk (Kd.C_below C11.out hb); have m_BK3 := Aside0.mk (blk_below BK3.out hb); clear HB; have HB := m_HB; clear m_HB; clear BK1; have BK1 := m_BK1; clear m_BK1; clear C7; have C7 := m_C7; clear m_C7; clear BK2; have BK2 := m_BK2; clear m_BK2; clear C11; have C11 := m_C11; clear m_C11; clear BK3; have BK3 := m_BK3; clear m_BK3; clear hb; (try clear q0 q1 q2); have q0 : w121.cell? ⟨g1, 0, none⟩ = some (.int .u64 31) := (blk_cell BK1.out 0).trans rfl; have q1 : w121.cell? ⟨g1, 1, none⟩ = some (.int .i64 4) := (blk_cell BK1.out 1).trans rfl; have q2 : w121.cell? ⟨g1, 2, none⟩ = some (.int .i64 1) := (blk_cell BK1.out 2).trans rfl)
    | ((with_reducible refine gate_dst (N := 41) rfl ?_); (try (refine gate_guard (by rfl) ?_; dsimp only)); refine Kd.R_lit (Kd.int .i64) _ 3 ?hg (N := 41) ?hd (xs := ([1, 2, 4] : List Int)) (inner := [.int .i64 1, .int .i64 2, .int .i64 4]) (ok := fun _ => True) (okp := fun _ => True) ?hr ?hp (fun _ hk => hk) trivial (Below.refl _ _) (Nat.le_refl _) (by simp) ?_; (case hd => rfl); (case hg => rfl); (case hr => first | (go_simp; done) | (go_simp; rfl)); (case hp => exact (Reps.one (show Kd.M (Kd.int .i64) _ _ _ 1 [.int .i64 1] from rfl) (Reps.one (show Kd.M (Kd.int .i64) _ _ _ 2 [.int .i64 2] from rfl) (Reps.one (show Kd.M (Kd.int .i64) _ _ _ 4 [.int .i64 4] from rfl) (Reps.none _ _))))); intro v41 w122 ho hb hg_ hnew_; clear hg_ hnew_; (first | rw [← Ny124.out] at ho | (simp only [Int.reduceToNat] at ho; rw [← Ny124.out] at ho)); obtain ⟨A41, c41, e41⟩ := Kd.R_slice ho; subst e41; have C41 := Aside0.mk (Kd.R_reads' ho).2.2; have L41 := Aside0.mk (Kd.R_reads' ho).2.1; have m_HB := Aside0.mk (below_step HB.out hb); have m_BK1 := Aside0.mk (blk_below BK1.out hb); have m_C7 := Aside0.mk (Kd.C_below C7.out hb); have m_BK2 := Aside0.mk (blk_below BK2.out hb); have m_C11 := Aside0.mk (Kd.C_below C11.out hb); have m_BK3 := Aside0.mk (blk_below BK3.out hb); have m_C40 := Aside0.mk (Kd.C_below C40.out hb); clear HB; have HB := m_HB; clear m_HB; clear BK1; have BK1 := m_BK1; clear m_BK1; clear C7; have C7 := m_C7; clear m_C7; clear BK2; have BK2 := m_BK2; clear m_BK2; clear C11; have C11 := m_C11; clear m_C11; clear BK3; have BK3 := m_BK3; clear m_BK3; clear C40; have C40 := m_C40; clear m_C40; clear ho hb; (try clear q0 q1 q2); have q0 : w122.cell? ⟨g1, 0, none⟩ = some (.int .u64 31) := (blk_cell BK1.out 0).trans rfl; have q1 : w122.cell? ⟨g1, 1, none⟩ = some (.int .i64 4) := (blk_cell BK1.out 1).trans rfl; have q2 : w122.cell? ⟨g1, 2, none⟩ = some (.int .i64 1) := (blk_cell BK1.out 2).trans rfl)
    | (go_at_call 18; (with_reducible refine (privityref12_Ints.calls 20 A40 c40 y124 A41 c41 y124 true _ C40.out L40.out C41.out L41.out Fi2.out).mono ?_); rintro e w123 ⟨rfl, hd⟩; have hb := drawn_below hd; clear hd; have m_HB := Aside0.mk (below_step HB.out hb); have m_BK1 := Aside0.mk (blk_below BK1.out hb); have m_C7 := Aside0.mk (Kd.C_below C7.out hb); have m_BK2 := Aside0.mk (blk_below BK2.out hb); have m_C11 := Aside0.mk (Kd.C_below C11.out hb); have m_BK3 := Aside0.mk (blk_below BK3.out hb); clear HB; have HB := m_HB; clear m_HB; clear BK1; have BK1 := m_BK1; clear m_BK1; clear C7; have C7 := m_C7; clear m_C7; clear BK2; have BK2 := m_BK2; clear m_BK2; clear C11; have C11 := m_C11; clear m_C11; clear BK3; have BK3 := m_BK3; clear m_BK3; clear hb; (try clear q0 q1 q2); have q0 : w123.cell? ⟨g1, 0, none⟩ = some (.int .u64 31) := (blk_cell BK1.out 0).trans rfl; have q1 : w123.cell? ⟨g1, 1, none⟩ = some (.int .i64 4) := (blk_cell BK1.out 1).trans rfl; have q2 : w123.cell? ⟨g1, 2, none⟩ = some (.int .i64 1) := (blk_cell BK1.out 2).trans rfl)
    | ((with_reducible refine gate_dst (N := 46) rfl ?_); (try (refine gate_guard (by rfl) ?_; dsimp only)); refine Kd.R_lit (Kd.int .i64) _ 3 ?hg (N := 46) ?hd (xs := ([3] : List Int)) (inner := [.int .i64 3]) (ok := fun _ => True) (okp := fun _ => True) ?hr ?hp (fun _ hk => hk) trivial (Below.refl _ _) (Nat.le_refl _) (by simp) ?_; (case hd => rfl); (case hg => rfl); (case hr => first | (go_simp; done) | (go_simp; rfl)); (case hp => exact (Reps.one (show Kd.M (Kd.int .i64) _ _ _ 3 [.int .i64 3] from rfl) (Reps.none _ _))); intro v46 w124 ho hb hg_ hnew_; clear hg_ hnew_; (first | rw [← Ny3.out] at ho | (simp only [Int.reduceToNat] at ho; rw [← Ny3.out] at ho)); obtain ⟨A46, c46, e46⟩ := Kd.R_slice ho; subst e46; have C46 := Aside0.mk (Kd.R_reads' ho).2.2; have L46 := Aside0.mk (Kd.R_reads' ho).2.1; have m_HB := Aside0.mk (below_step HB.out hb); have m_BK1 := Aside0.mk (blk_below BK1.out hb); have m_C7 := Aside0.mk (Kd.C_below C7.out hb); have m_BK2 := Aside0.mk (blk_below BK2.out hb); have m_C11 := Aside0.mk (Kd.C_below C11.out hb); have m_BK3 := Aside0.mk (blk_below BK3.out hb); clear HB; have HB := m_HB; clear m_HB; clear BK1; have BK1 := m_BK1; clear m_BK1; clear C7; have C7 := m_C7; clear m_C7; clear BK2; have BK2 := m_BK2; clear m_BK2; clear C11; have C11 := m_C11; clear m_C11; clear BK3; have BK3 := m_BK3; clear m_BK3; clear ho hb; (try clear q0 q1 q2); have q0 : w124.cell? ⟨g1, 0, none⟩ = some (.int .u64 31) := (blk_cell BK1.out 0).trans rfl; have q1 : w124.cell? ⟨g1, 1, none⟩ = some (.int .i64 4) := (blk_cell BK1.out 1).trans rfl; have q2 : w124.cell? ⟨g1, 2, none⟩ = some (.int .i64 1) := (blk_cell BK1.out 2).trans rfl)
    | (go_at_call 23; (with_reducible refine (params_VanishingPolynomial.calls 40 31 4 1 A46 c46 y3 y110 _ C46.out L46.out Fp.out).mono ?_); rintro e w125 ⟨v47, rfl, ho, hb⟩; obtain ⟨A47, c47, e47⟩ := Kd.R_slice ho; subst e47; have C47 := Aside0.mk (Kd.R_reads' ho).2.2; have L47 := Aside0.mk (Kd.R_reads' ho).2.1; clear ho; have m_HB := Aside0.mk (below_step HB.out hb); have m_BK1 := Aside0.mk (blk_below BK1.out hb); have m_C7 := Aside0.mk (Kd.C_below C7.out hb); have m_BK2 := Aside0.mk (blk_below BK2.out hb); have m_C11 := Aside0.mk (Kd.C_below C11.out hb); have m_BK3 := Aside0.mk (blk_below BK3.out hb); clear HB; have HB := m_HB; clear m_HB; clear BK1; have BK1 := m_BK1; clear m_BK1; clear C7; have C7 := m_C7; clear m_C7; clear BK2; have BK2 := m_BK2; clear m_BK2; clear C11; have C11 := m_C11; clear m_C11; clear BK3; have BK3 := m_BK3; clear m_BK3; clear hb; (try clear q0 q1 q2); have q0 : w125.cell? ⟨g1, 0, none⟩ = some (.int .u64 31) := (blk_cell BK1.out 0).trans rfl; have q1 : w125.cell? ⟨g1, 1, none⟩ = some (.int .i64 4) := (blk_cell BK1.out 1).trans rfl; have q2 : w125.cell? ⟨g1, 2, none⟩ = some (.int .i64 1) := (blk_cell BK1.out 2).trans rfl)
    | ((with_reducible refine gate_dst (N := 48) rfl ?_); (try (refine gate_guard (by rfl) ?_; dsimp only)); refine Kd.R_lit (Kd.int .u64) _ 22 ?hg (N := 48) ?hd (xs := ([1, 10] : List Int)) (inner := [.int .u64 1, .int .u64 10]) (ok := fun _ => True) (okp := fun _ => True) ?hr ?hp (fun _ hk => hk) trivial (Below.refl _ _) (Nat.le_refl _) (by simp) ?_; (case hd => rfl); (case hg => rfl); (case hr => first | (go_simp; done) | (go_simp; rfl)); (case hp => exact (Reps.one (show Kd.M (Kd.int .u64) _ _ _ 1 [.int .u64 1] from rfl) (Reps.one (show Kd.M (Kd.int .u64) _ _ _ 10 [.int .u64 10] from rfl) (Reps.none _ _)))); intro v48 w126 ho hb hg_ hnew_; clear hg_ hnew_; (first | rw [← Ny110.out] at ho | (simp only [Int.reduceToNat] at ho; rw [← Ny110.out] at ho)); obtain ⟨A48, c48, e48⟩ := Kd.R_slice ho; subst e48; have C48 := Aside0.mk (Kd.R_reads' ho).2.2; have L48 := Aside0.mk (Kd.R_reads' ho).2.1; have m_HB := Aside0.mk (below_step HB.out hb); have m_BK1 := Aside0.mk (blk_below BK1.out hb); have m_C7 := Aside0.mk (Kd.C_below C7.out hb); have m_BK2 := Aside0.mk (blk_below BK2.out hb); have m_C11 := Aside0.mk (Kd.C_below C11.out hb); have m_BK3 := Aside0.mk (blk_below BK3.out hb); have m_C47 := Aside0.mk (Kd.C_below C47.out hb); clear HB; have HB := m_HB; clear m_HB; clear BK1; have BK1 := m_BK1; clear m_BK1; clear C7; have C7 := m_C7; clear m_C7; clear BK2; have BK2 := m_BK2; clear m_BK2; clear C11; have C11 := m_C11; clear m_C11; clear BK3; have BK3 := m_BK3; clear m_BK3; clear C47; have C47 := m_C47; clear m_C47; clear ho hb; (try clear q0 q1 q2); have q0 : w126.cell? ⟨g1, 0, none⟩ = some (.int .u64 31) := (blk_cell BK1.out 0).trans rfl; have q1 : w126.cell? ⟨g1, 1, none⟩ = some (.int .i64 4) := (blk_cell BK1.out 1).trans rfl; have q2 : w126.cell? ⟨g1, 2, none⟩ = some (.int .i64 1) := (blk_cell BK1.out 2).trans rfl)
    | (go_at_call 22; (with_reducible refine (privityref05_Same.calls 20 A47 c47 y110 A48 c48 y110 true _ C47.out L47.out C48.out L48.out Fs.out).mono ?_); rintro e w127 ⟨rfl, hd⟩; have hb := drawn_below hd; clear hd; have m_HB := Aside0.mk (below_step HB.out hb); have m_BK1 := Aside0.mk (blk_below BK1.out hb); have m_C7 := Aside0.mk (Kd.C_below C7.out hb); have m_BK2 := Aside0.mk (blk_below BK2.out hb); have m_C11 := Aside0.mk (Kd.C_below C11.out hb); have m_BK3 := Aside0.mk (blk_below BK3.out hb); clear HB; have HB := m_HB; clear m_HB; clear BK1; have BK1 := m_BK1; clear m_BK1; clear C7; have C7 := m_C7; clear m_C7; clear BK2; have BK2 := m_BK2; clear m_BK2; clear C11; have C11 := m_C11; clear m_C11; clear BK3; have BK3 := m_BK3; clear m_BK3; clear hb; (try clear q0 q1 q2); have q0 : w127.cell? ⟨g1, 0, none⟩ = some (.int .u64 31) := (blk_cell BK1.out 0).trans rfl; have q1 : w127.cell? ⟨g1, 1, none⟩ = some (.int .i64 4) := (blk_cell BK1.out 1).trans rfl; have q2 : w127.cell? ⟨g1, 2, none⟩ = some (.int .i64 1) := (blk_cell BK1.out 2).trans rfl; (try clear u0 u1 u2 u3 u4 u5); have u0 : w127.cell? ⟨g2, 0, none⟩ = some (.int .u64 31) := (blk_cell BK2.out 0).trans rfl; have u1 : w127.cell? ⟨g2, 1, none⟩ = some (.int .i64 4) := (blk_cell BK2.out 1).trans rfl; have u2 : w127.cell? ⟨g2, 2, none⟩ = some (.int .i64 1) := (blk_cell BK2.out 2).trans rfl; have u3 : w127.cell? ⟨g2, 3, none⟩ = some (.slice none 0 0) := (blk_cell BK2.out 3).trans rfl; have u4 : w127.cell? ⟨g2, 4, none⟩ = some (.slice none 0 0) := (blk_cell BK2.out 4).trans rfl; have u5 : w127.cell? ⟨g2, 5, none⟩ = some (.slice A7 r30.length c7) := (blk_cell BK2.out 5).trans rfl)
    | (go_at_call 14; (with_reducible refine (aw_scn A7 c7 r30 true L7.out Fw.out _ (Hx_below HX.out HB.out) C7.out).mono ?_); rintro e w128 ⟨rfl, hb⟩; have m_HB := Aside0.mk (below_step HB.out hb); have m_BK1 := Aside0.mk (blk_below BK1.out hb); have m_C7 := Aside0.mk (Kd.C_below C7.out hb); have m_BK2 := Aside0.mk (blk_below BK2.out hb); have m_C11 := Aside0.mk (Kd.C_below C11.out hb); have m_BK3 := Aside0.mk (blk_below BK3.out hb); clear HB; have HB := m_HB; clear m_HB; clear BK1; have BK1 := m_BK1; clear m_BK1; clear C7; have C7 := m_C7; clear m_C7; clear BK2; have BK2 := m_BK2; clear m_BK2; clear C11; have C11 := m_C11; clear m_C11; clear BK3; have BK3 := m_BK3; clear m_BK3; clear hb; (try clear q0 q1 q2); have q0 : w128.cell? ⟨g1, 0, none⟩ = some (.int .u64 31) := (blk_cell BK1.out 0).trans rfl; have q1 : w128.cell? ⟨g1, 1, none⟩ = some (.int .i64 4) := (blk_cell BK1.out 1).trans rfl; have q2 : w128.cell? ⟨g1, 2, none⟩ = some (.int .i64 1) := (blk_cell BK1.out 2).trans rfl; (try clear x0 x1 x2 x3 x4 x5); have x0 : w128.cell? ⟨g3, 0, none⟩ = some (.int .u64 31) := (blk_cell BK3.out 0).trans rfl; have x1 : w128.cell? ⟨g3, 1, none⟩ = some (.int .i64 4) := (blk_cell BK3.out 1).trans rfl; have x2 : w128.cell? ⟨g3, 2, none⟩ = some (.int .i64 1) := (blk_cell BK3.out 2).trans rfl; have x3 : w128.cell? ⟨g3, 3, none⟩ = some (.slice none 0 0) := (blk_cell BK3.out 3).trans rfl; have x4 : w128.cell? ⟨g3, 4, none⟩ = some (.slice none 0 0) := (blk_cell BK3.out 4).trans rfl; have x5 : w128.cell? ⟨g3, 5, none⟩ = some (.slice A11 r31.length c11) := (blk_cell BK3.out 5).trans rfl)
    | (go_at_call 14; (with_reducible refine (aw_scn A11 c11 r31 false L11.out Fx.out _ (Hx_below HX.out HB.out) C11.out).mono ?_); rintro e w129 ⟨rfl, hb⟩; have m_HB := Aside0.mk (below_step HB.out hb); have m_BK1 := Aside0.mk (blk_below BK1.out hb); have m_C7 := Aside0.mk (Kd.C_below C7.out hb); have m_BK2 := Aside0.mk (blk_below BK2.out hb); have m_C11 := Aside0.mk (Kd.C_below C11.out hb); have m_BK3 := Aside0.mk (blk_below BK3.out hb); clear HB; have HB := m_HB; clear m_HB; clear BK1; have BK1 := m_BK1; clear m_BK1; clear C7; have C7 := m_C7; clear m_C7; clear BK2; have BK2 := m_BK2; clear m_BK2; clear C11; have C11 := m_C11; clear m_C11; clear BK3; have BK3 := m_BK3; clear m_BK3; clear hb; (try clear q0 q1 q2); have q0 : w129.cell? ⟨g1, 0, none⟩ = some (.int .u64 31) := (blk_cell BK1.out 0).trans rfl; have q1 : w129.cell? ⟨g1, 1, none⟩ = some (.int .i64 4) := (blk_cell BK1.out 1).trans rfl; have q2 : w129.cell? ⟨g1, 2, none⟩ = some (.int .i64 1) := (blk_cell BK1.out 2).trans rfl))
  first | go_ret | ((try simp only [Exit.inBlock, Exit.then]); refine bodyPost_ret (results_tmp rfl _ _ _) rfl ?_)
  exact ⟨rfl, HB.out⟩
def privitylaw12_awake.f : Option Bool := some true
theorem privitylaw12_awake.calls (r : Bool) (w : World) (hx : Hx w) (h : privitylaw12_awake.f = some r) : Calls Tryd.prog 9 #[] w fun e w' => e = .returned (.bool r) ∧ Below w.heap.size w w' := by
  rw [← Option.some.inj h]
  exact awake_walk w hx
end Go.Proofs.YtakaonojfpkhnaaDoor.Hw
end
section
/- Printed by a program of this seat (the kit's printer, with the functions that were proved by hand given to it). What stands here: the functions that the statements reach, as plain functions, and that the Go code computes them. -/
namespace Go.Proofs.YtakaonojfpkhnaaDoor.Pr
open Go.RowKit Go.Proofs.YtakaonojfpkhnaaDoorW.PrintWords Go.Proofs.YtakaonojfpkhnaaDoorW.PrintLast Go.Proofs.YtakaonojfpkhnaaDoorW.PrintMore
attribute [local go_sem] max2_int min2_int max_two min_two max_three min_three max_four min_four   -- for this text's walks alone
set_option linter.unusedVariables false
set_option linter.unusedSimpArgs false

open Go.Proofs.YtakaonojfpkhnaaDoor.Hw
/-! ### privitylaw12_ParamsValidScenarioMatchesReference: function 4 -/
mutual
def privitylaw12_ParamsValidScenarioMatchesReference.j0 : Nat → Bool → Int → Int → Int → List Int → List (S42) → List (List Int) → Option (Bool)
 | 0,_,_,_,_,_,_,_ => none
 | k + 1,x21,x226000,x226001,x226002,x226003,x226004,x226005 => if x21 = true then (some true) else (privitylaw12_ParamsValidScenarioMatchesReference.l0 k 0 x226000 x226001 x226002 x226003 x226004 x226005)
def privitylaw12_ParamsValidScenarioMatchesReference.l0 : Nat → Int → Int → Int → Int → List Int → List (S42) → List (List Int) → Option (Bool)
 | 0,_,_,_,_,_,_,_ => none
 | k + 1,x3,x226000,x226001,x226002,x226003,x226004,x226005 => if x3 < (x226005.length : Int) then (if 0 ≤ x3 then (if ((rd_L6 x226005 x3).length : Int) > 300 then (some true) else (privitylaw12_ParamsValidScenarioMatchesReference.l0 k (wrap64 (x3 + 1)) x226000 x226001 x226002 x226003 x226004 x226005)) else (none)) else ((params_ValidScenario.f x226000 x226001 x226002 x226003 x226004 x226005).bind fun t228 => ((privityref12_ValidScenario.f k x226000 x226001 x226002 x226003 x226004 x226005).bind fun t229 => (some (t228 == t229))))
end
def privitylaw12_ParamsValidScenarioMatchesReference.f (k : Nat) (a0_0 : Int) (a0_1 : Int) (a0_2 : Int) (l0_3 : List Int) (l0_4 : List (S42)) (l0_5 : List (List Int)) : Option (Bool) := (privitylaw12_awake.f).bind fun t226 => (if t226 = true then (if (l0_3.length : Int) > 30 then (privitylaw12_ParamsValidScenarioMatchesReference.j0 k true a0_0 a0_1 a0_2 l0_3 l0_4 l0_5) else (if (l0_4.length : Int) > 30 then (privitylaw12_ParamsValidScenarioMatchesReference.j0 k true a0_0 a0_1 a0_2 l0_3 l0_4 l0_5) else (privitylaw12_ParamsValidScenarioMatchesReference.j0 k (decide ((l0_5.length : Int) > 20)) a0_0 a0_1 a0_2 l0_3 l0_4 l0_5))) else (some false))
set_option maxHeartbeats 8000000 in
set_option maxRecDepth 100000 in
theorem privitylaw12_ParamsValidScenarioMatchesReference.calls (k : Nat) (a0_0 : Int) (a0_1 : Int) (a0_2 : Int) (A0_3 : Option Addr) (c0_3 : Nat) (l0_3 : List Int) (A0_4 : Option Addr) (c0_4 : Nat) (l0_4 : List (S42)) (A0_5 : Option Addr) (c0_5 : Nat) (l0_5 : List (List Int)) (r : Bool) (w : World) (hr0_3 : Kd.C (Kd.int .i64) w A0_3 l0_3.length l0_3) (hc0_3 : l0_3.length ≤ c0_3) (hr0_4 : Kd.C k42 w A0_4 l0_4.length l0_4) (hc0_4 : l0_4.length ≤ c0_4) (hr0_5 : Kd.C (Kd.slice 22 (Kd.int .u64)) w A0_5 l0_5.length l0_5) (hc0_5 : l0_5.length ≤ c0_5) (hr1_ : r = true) (hx_ : Hx w) (h : privitylaw12_ParamsValidScenarioMatchesReference.f k a0_0 a0_1 a0_2 l0_3 l0_4 l0_5 = some r) :
  Calls Tryd.prog 4 #[.agg #[.int .u64 a0_0,.int .i64 a0_1,.int .i64 a0_2,.slice A0_3 l0_3.length c0_3,.slice A0_4 l0_4.length c0_4,.slice A0_5 l0_5.length c0_5]] w fun e w' => e = .returned (.bool r) ∧ Below w.heap.size w w' := by
 have HX_ := Aside0.mk hx_
 clear hx_
 have HRT_ := Aside0.mk hr1_
 clear hr1_
 have hu32 := Tryd.underlying32
 have HR0_3 := Aside0.mk hr0_3
 have HC0_3 := Aside0.mk hc0_3
 clear hr0_3 hc0_3
 have HR0_4 := Aside0.mk hr0_4
 have HC0_4 := Aside0.mk hc0_4
 clear hr0_4 hc0_4
 have HR0_5 := Aside0.mk hr0_5
 have HC0_5 := Aside0.mk hc0_5
 clear hr0_5 hc0_5
 have HB := Aside0.mk (Below.refl w.heap.size w)
 have H : ((privitylaw12_awake.f).bind fun t226 => (if t226 = true then (if (l0_3.length : Int) > 30 then (privitylaw12_ParamsValidScenarioMatchesReference.j0 k true a0_0 a0_1 a0_2 l0_3 l0_4 l0_5) else (if (l0_4.length : Int) > 30 then (privitylaw12_ParamsValidScenarioMatchesReference.j0 k true a0_0 a0_1 a0_2 l0_3 l0_4 l0_5) else (privitylaw12_ParamsValidScenarioMatchesReference.j0 k (decide ((l0_5.length : Int) > 20)) a0_0 a0_1 a0_2 l0_3 l0_4 l0_5))) else (some false))) = some r := h
 clear h
 replace H := Option.bind_eq_some_iff.mp H
 obtain ⟨t226,A20,H⟩ := H
 replace H : (if t226 = true then (if (l0_3.length : Int) > 30 then (privitylaw12_ParamsValidScenarioMatchesReference.j0 k true a0_0 a0_1 a0_2 l0_3 l0_4 l0_5) else (if (l0_4.length : Int) > 30 then (privitylaw12_ParamsValidScenarioMatchesReference.j0 k true a0_0 a0_1 a0_2 l0_3 l0_4 l0_5) else (privitylaw12_ParamsValidScenarioMatchesReference.j0 k (decide ((l0_5.length : Int) > 20)) a0_0 a0_1 a0_2 l0_3 l0_4 l0_5))) else (some false)) = some r := H
 have A2 := Aside0.mk A20
 clear A20
 by_cases c3 : t226 = true
 ·subst c3
  have H1 : (if (l0_3.length : Int) > 30 then (privitylaw12_ParamsValidScenarioMatchesReference.j0 k true a0_0 a0_1 a0_2 l0_3 l0_4 l0_5) else (if (l0_4.length : Int) > 30 then (privitylaw12_ParamsValidScenarioMatchesReference.j0 k true a0_0 a0_1 a0_2 l0_3 l0_4 l0_5) else (privitylaw12_ParamsValidScenarioMatchesReference.j0 k (decide ((l0_5.length : Int) > 20)) a0_0 a0_1 a0_2 l0_3 l0_4 l0_5))) = some r := by rw [if_pos rfl] at H;exact H
  clear H
  have H := H1
  clear H1
  have HC4 := Aside0.mk H
  clear H
  go_enter Tryd.func4,Tryd.ntmps4
  go_upto_region 3 with (first|((with_reducible refine gate_dst (N := 1) rfl ?_);(try (refine gate_guard (by rfl) ?_;dsimp only));refine box_event ?hg (N := 1) ?hd (cs := #[.int .u64 a0_0,.int .i64 a0_1,.int .i64 a0_2,.slice A0_3 l0_3.length c0_3,.slice A0_4 l0_4.length c0_4,.slice A0_5 l0_5.length c0_5]) (t := 32) ?hr ?_;(case hd => rfl);(case hg => rfl);(case hr => first|(go_simp;done)|(go_simp;rfl));intro gb225 hg w5 hbox hb;have n0_ := Aside0.mk (below_step (by repeat (first|(with_reducible first|exact HB.out|apply below_alloc|apply pw_below_drewN|apply below_drew1)|exact HB.out)) hb);have n1_ := Aside0.mk (hbox);have n2_ := Aside0.mk ((by rw [hg];exact (below_size (by repeat (first|(with_reducible first|exact HB.out|apply below_alloc|apply pw_below_drewN|apply below_drew1)|exact HB.out))) : w.heap.size ≤ gb225));have n3_ := Aside0.mk ((by rw [hg];exact (below_size (by repeat (first|(with_reducible first|exact HB.out|apply below_alloc|apply pw_below_drewN|apply below_drew1)|exact HB.out))) : w.heap.size ≤ gb225));clear HB;have HB := n0_;have BK225 := n1_;have GW225 := n2_;have GE225 := n3_;clear n0_ n1_ n2_ n3_;clear hb hbox hg)|((with_reducible refine gate_callee (f := 9) rfl ?_);refine goesL_ (some 4) rfl rfl Tryd.func9 (by kernel_rfl) rfl #[] rfl (by (try simp only [List.map_toArray,List.map_cons,List.map_nil]);first|done|rfl|(simp only [List.length_drop,List.length_take];rfl)) ?_;(with_reducible refine (privitylaw12_awake.calls  true _ ?sidehx A2.out).mono ?_);(case sidehx => repeat (first|exact HX_.out|exact (Hx_below HX_.out HB.out)|(with_reducible refine Hx_alloc ?_ _)|(with_reducible refine Hx_drewN ?_ _)|(with_reducible refine Hx_drew ?_)));rintro e w6 ⟨rfl,hb⟩;refine ⟨_,rfl,?_⟩;have n0_ := Aside0.mk (blk_below (g := gb225) (o := .cells #[.int .u64 a0_0,.int .i64 a0_1,.int .i64 a0_2,.slice A0_3 l0_3.length c0_3,.slice A0_4 l0_4.length c0_4,.slice A0_5 l0_5.length c0_5] 32 (0,0)) (by (with_reducible repeat (first|refine blk_drewN ?_ _|refine blk_drew ?_|refine blk_alloc ?_ _));exact BK225.out) hb);have n1_ := Aside0.mk (below_step (by repeat (first|(with_reducible first|exact HB.out|apply below_alloc|apply pw_below_drewN|apply below_drew1|refine below_set ?_ GE225.out)|exact HB.out)) hb);clear BK225;clear HB;have BK225 := n0_;have HB := n1_;clear n0_ n1_;(try clear hb);(try clear hb2);(try clear hk);(try clear hi)))
  (try simp only [Act.put,List.setIfInBounds_toArray,List.set_cons_zero,List.set_cons_succ])
  go_cut [21] (fun v21 wc => ∃ (kq : Nat) (x21_3 : Bool),v21 = .bool x21_3 ∧ Aside0 (privitylaw12_ParamsValidScenarioMatchesReference.j0 kq x21_3 a0_0 a0_1 a0_2 l0_3 l0_4 l0_5 = some r) ∧ Aside0 (kq ≤ k) ∧ Aside0 (wc.heap[gb225]? = some (.cells #[.int .u64 a0_0,.int .i64 a0_1,.int .i64 a0_2,(.slice A0_3 l0_3.length c0_3),(.slice A0_4 l0_4.length c0_4),(.slice A0_5 l0_5.length c0_5)] 32 (0,0))) ∧ Aside0 (Below w.heap.size w wc))
  case first =>
   have H := HC4.out
   clear HC4
   by_cases c7 : (l0_3.length : Int) > 30
   ·rw [if_pos c7] at H
    have c7b0 : decide (30 < (l0_3.length : Int)) = true := decide_eq_true c7
    have c7b1 : decide (30 < l0_3.length) = true := decide_eq_true (by omega)
    clear c7
    (first|rw [c7b0]|(simp only [i64_w,i32_w];rw [c7b0])|skip)
    have H' := Aside0.mk H
    clear H
    have hcz8_0 : w6.cell? ⟨gb225,0,none⟩ = some (.int .u64 a0_0) := (blk_cell BK225.out 0).trans rfl
    have hcz8_1 : w6.cell? ⟨gb225,1,none⟩ = some (.int .i64 a0_1) := (blk_cell BK225.out 1).trans rfl
    have hcz8_2 : w6.cell? ⟨gb225,2,none⟩ = some (.int .i64 a0_2) := (blk_cell BK225.out 2).trans rfl
    have hcz8_3 : w6.cell? ⟨gb225,3,none⟩ = some (.slice A0_3 l0_3.length c0_3) := (blk_cell BK225.out 3).trans rfl
    have hcz8_4 : w6.cell? ⟨gb225,4,none⟩ = some (.slice A0_4 l0_4.length c0_4) := (blk_cell BK225.out 4).trans rfl
    have hcz8_5 : w6.cell? ⟨gb225,5,none⟩ = some (.slice A0_5 l0_5.length c0_5) := (blk_cell BK225.out 5).trans rfl
    have hfz8_0 := blk_frozen BK225.out 0
    have hfz8_1 := blk_frozen BK225.out 1
    have hfz8_2 := blk_frozen BK225.out 2
    have hfz8_3 := blk_frozen BK225.out 3
    have hfz8_4 := blk_frozen BK225.out 4
    have hfz8_5 := blk_frozen BK225.out 5
    go_wp2
    go_meet
    case rel => exact ⟨_,(true),(by first|rfl|(simp;done)|(simp [*];done)),H',⟨by first|omega|exact Nat.le_refl _⟩,⟨by (with_reducible repeat (first|refine blk_drewN ?_ _|refine blk_drew ?_|refine blk_alloc ?_ _));exact BK225.out⟩,⟨by repeat (first|(with_reducible first|exact HB.out|apply below_alloc|apply pw_below_drewN|apply below_drew1|refine below_set ?_ GE225.out)|exact HB.out)⟩⟩
   ·rw [if_neg c7] at H
    have c7b0 : decide (30 < (l0_3.length : Int)) = false := decide_eq_false c7
    have c7b1 : decide (30 < l0_3.length) = false := decide_eq_false (by omega)
    clear c7
    (first|rw [c7b0]|(simp only [i64_w,i32_w];rw [c7b0])|skip)
    by_cases c9 : (l0_4.length : Int) > 30
    ·rw [if_pos c9] at H
     have c9b0 : decide (30 < (l0_4.length : Int)) = true := decide_eq_true c9
     have c9b1 : decide (30 < l0_4.length) = true := decide_eq_true (by omega)
     clear c9
     have H' := Aside0.mk H
     clear H
     have hcz10_0 : w6.cell? ⟨gb225,0,none⟩ = some (.int .u64 a0_0) := (blk_cell BK225.out 0).trans rfl
     have hcz10_1 : w6.cell? ⟨gb225,1,none⟩ = some (.int .i64 a0_1) := (blk_cell BK225.out 1).trans rfl
     have hcz10_2 : w6.cell? ⟨gb225,2,none⟩ = some (.int .i64 a0_2) := (blk_cell BK225.out 2).trans rfl
     have hcz10_3 : w6.cell? ⟨gb225,3,none⟩ = some (.slice A0_3 l0_3.length c0_3) := (blk_cell BK225.out 3).trans rfl
     have hcz10_4 : w6.cell? ⟨gb225,4,none⟩ = some (.slice A0_4 l0_4.length c0_4) := (blk_cell BK225.out 4).trans rfl
     have hcz10_5 : w6.cell? ⟨gb225,5,none⟩ = some (.slice A0_5 l0_5.length c0_5) := (blk_cell BK225.out 5).trans rfl
     have hfz10_0 := blk_frozen BK225.out 0
     have hfz10_1 := blk_frozen BK225.out 1
     have hfz10_2 := blk_frozen BK225.out 2
     have hfz10_3 := blk_frozen BK225.out 3
     have hfz10_4 := blk_frozen BK225.out 4
     have hfz10_5 := blk_frozen BK225.out 5
     go_wp2
     go_meet
     case rel => exact ⟨_,(true),(by first|rfl|(simp;done)|(simp [*];done)),H',⟨by first|omega|exact Nat.le_refl _⟩,⟨by (with_reducible repeat (first|refine blk_drewN ?_ _|refine blk_drew ?_|refine blk_alloc ?_ _));exact BK225.out⟩,⟨by repeat (first|(with_reducible first|exact HB.out|apply below_alloc|apply pw_below_drewN|apply below_drew1|refine below_set ?_ GE225.out)|exact HB.out)⟩⟩
    ·rw [if_neg c9] at H
     have c9b0 : decide (30 < (l0_4.length : Int)) = false := decide_eq_false c9
     have c9b1 : decide (30 < l0_4.length) = false := decide_eq_false (by omega)
     clear c9
     have H' := Aside0.mk H
     clear H
     have hcz11_0 : w6.cell? ⟨gb225,0,none⟩ = some (.int .u64 a0_0) := (blk_cell BK225.out 0).trans rfl
     have hcz11_1 : w6.cell? ⟨gb225,1,none⟩ = some (.int .i64 a0_1) := (blk_cell BK225.out 1).trans rfl
     have hcz11_2 : w6.cell? ⟨gb225,2,none⟩ = some (.int .i64 a0_2) := (blk_cell BK225.out 2).trans rfl
     have hcz11_3 : w6.cell? ⟨gb225,3,none⟩ = some (.slice A0_3 l0_3.length c0_3) := (blk_cell BK225.out 3).trans rfl
     have hcz11_4 : w6.cell? ⟨gb225,4,none⟩ = some (.slice A0_4 l0_4.length c0_4) := (blk_cell BK225.out 4).trans rfl
     have hcz11_5 : w6.cell? ⟨gb225,5,none⟩ = some (.slice A0_5 l0_5.length c0_5) := (blk_cell BK225.out 5).trans rfl
     have hfz11_0 := blk_frozen BK225.out 0
     have hfz11_1 := blk_frozen BK225.out 1
     have hfz11_2 := blk_frozen BK225.out 2
     have hfz11_3 := blk_frozen BK225.out 3
     have hfz11_4 := blk_frozen BK225.out 4
     have hfz11_5 := blk_frozen BK225.out 5
     go_wp2
     go_meet
     case rel => exact ⟨_,(decide ((l0_5.length : Int) > 20)),(by first|rfl|(simp;done)|(simp [*];done)),H',⟨by first|omega|exact Nat.le_refl _⟩,⟨by (with_reducible repeat (first|refine blk_drewN ?_ _|refine blk_drew ?_|refine blk_alloc ?_ _));exact BK225.out⟩,⟨by repeat (first|(with_reducible first|exact HB.out|apply below_alloc|apply pw_below_drewN|apply below_drew1|refine below_set ?_ GE225.out)|exact HB.out)⟩⟩
  case rest =>
   clear HC4
   try clear p2
   try clear c3
   try clear c4
   try clear c7
   try clear c7b0
   try clear c7b1
   try clear c9
   try clear c9b0
   try clear c9b1
   try clear hcz10_0
   try clear hcz10_1
   try clear hcz10_2
   try clear hcz10_3
   try clear hcz10_4
   try clear hcz10_5
   try clear hcz11_0
   try clear hcz11_1
   try clear hcz11_2
   try clear hcz11_3
   try clear hcz11_4
   try clear hcz11_5
   try clear hcz8_0
   try clear hcz8_1
   try clear hcz8_2
   try clear hcz8_3
   try clear hcz8_4
   try clear hcz8_5
   try clear hfz10_0
   try clear hfz10_1
   try clear hfz10_2
   try clear hfz10_3
   try clear hfz10_4
   try clear hfz10_5
   try clear hfz11_0
   try clear hfz11_1
   try clear hfz11_2
   try clear hfz11_3
   try clear hfz11_4
   try clear hfz11_5
   try clear hfz8_0
   try clear hfz8_1
   try clear hfz8_2
   try clear hfz8_3
   try clear hfz8_4
   try clear hfz8_5
   obtain ⟨kq,x21_3,rfl,HA,HJ3,BK225,HB⟩ := hcut
   cases kq with
   | zero => exact absurd HA.out (by simp [privitylaw12_ParamsValidScenarioMatchesReference.j0])
   | succ kj3 =>
    have H := HA.out
    clear HA
    simp only [privitylaw12_ParamsValidScenarioMatchesReference.j0] at H
    by_cases c12 : x21_3 = true
    ·subst c12
     have H1 : (some true) = some r := by rw [if_pos rfl] at H;exact H
     clear H
     have H := H1
     clear H1
     obtain rfl := Option.some.inj H
     go_wp2
     go_ret
     exact ⟨by first|rfl|(simp [errW_none,errW_some] <;> rfl)|(simp [*,errW_none,errW_some] <;> rfl),by repeat (first|(with_reducible first|exact HB.out|apply below_alloc|apply pw_below_drewN|apply below_drew1|refine below_set ?_ GE225.out)|exact HB.out)⟩
    ·replace c12 := Bool.eq_false_iff.mpr c12
     subst c12
     have H1 : (privitylaw12_ParamsValidScenarioMatchesReference.l0 kj3 0 a0_0 a0_1 a0_2 l0_3 l0_4 l0_5) = some r := by rw [if_neg (show ¬ (false = true) by decide)] at H;exact H
     clear H
     have H := H1
     clear H1
     have H' := Aside0.mk H
     clear H
     go_wp2
     go_loopg [3] kj3 (fun kq v3 w' => ∃ (x3_2 : Int),v3 = .int .i64 x3_2 ∧ Aside0 (privitylaw12_ParamsValidScenarioMatchesReference.l0 kq x3_2 a0_0 a0_1 a0_2 l0_3 l0_4 l0_5 = some r) ∧ Aside0 (kq ≤ kj3) ∧ Aside0 (w'.heap[gb225]? = some (.cells #[.int .u64 a0_0,.int .i64 a0_1,.int .i64 a0_2,(.slice A0_3 l0_3.length c0_3),(.slice A0_4 l0_4.length c0_4),(.slice A0_5 l0_5.length c0_5)] 32 (0,0))) ∧ Aside0 (Below w.heap.size w w'))
     case atStart => exact ⟨(0),(by first|rfl|(simp;done)|(simp [*];done)),H',⟨Nat.le_refl _⟩,⟨by (with_reducible repeat (first|refine blk_drewN ?_ _|refine blk_drew ?_|refine blk_alloc ?_ _));exact BK225.out⟩,⟨by repeat (first|(with_reducible first|exact HB.out|apply below_alloc|apply pw_below_drewN|apply below_drew1|refine below_set ?_ GE225.out)|exact HB.out)⟩⟩
     case round =>
      clear H'
      try clear c1
      try clear p2
      try clear c3
      try clear c4
      try clear c7
      try clear c7b0
      try clear c7b1
      try clear c9
      try clear c9b0
      try clear c9b1
      try clear c12
      try clear hcz10_0
      try clear hcz10_1
      try clear hcz10_2
      try clear hcz10_3
      try clear hcz10_4
      try clear hcz10_5
      try clear hcz11_0
      try clear hcz11_1
      try clear hcz11_2
      try clear hcz11_3
      try clear hcz11_4
      try clear hcz11_5
      try clear hcz8_0
      try clear hcz8_1
      try clear hcz8_2
      try clear hcz8_3
      try clear hcz8_4
      try clear hcz8_5
      try clear hfz10_0
      try clear hfz10_1
      try clear hfz10_2
      try clear hfz10_3
      try clear hfz10_4
      try clear hfz10_5
      try clear hfz11_0
      try clear hfz11_1
      try clear hfz11_2
      try clear hfz11_3
      try clear hfz11_4
      try clear hfz11_5
      try clear hfz8_0
      try clear hfz8_1
      try clear hfz8_2
      try clear hfz8_3
      try clear hfz8_4
      try clear hfz8_5
      try clear p2
      obtain ⟨x3_2,rfl,HA,HK2,BK225,HB⟩ := hrel
      cases gk with
      | zero => exact absurd HA.out (by simp [privitylaw12_ParamsValidScenarioMatchesReference.l0])
      | succ k2 =>
       have H := HA.out
       clear HA
       simp only [privitylaw12_ParamsValidScenarioMatchesReference.l0] at H
       by_cases c13 : x3_2 < (l0_5.length : Int)
       ·rw [if_pos c13] at H
        have c13b0 : decide (x3_2 < (l0_5.length : Int)) = true := decide_eq_true c13
        clear c13
        by_cases c14 : 0 ≤ x3_2
        ·rw [if_pos c14] at H
         have c14b0 : decide (0 ≤ x3_2) = true := decide_eq_true c14
         clear c14
         by_cases c15 : ((rd_L6 l0_5 x3_2).length : Int) > 300
         ·rw [if_pos c15] at H
          have c15b0 : decide (300 < ((rd_L6 l0_5 x3_2).length : Int)) = true := decide_eq_true c15
          have c15b1 : decide (300 < (rd_L6 l0_5 x3_2).length) = true := decide_eq_true (by omega)
          clear c15
          obtain rfl := Option.some.inj H
          have hcz16_0 : wr.cell? ⟨gb225,0,none⟩ = some (.int .u64 a0_0) := (blk_cell BK225.out 0).trans rfl
          have hcz16_1 : wr.cell? ⟨gb225,1,none⟩ = some (.int .i64 a0_1) := (blk_cell BK225.out 1).trans rfl
          have hcz16_2 : wr.cell? ⟨gb225,2,none⟩ = some (.int .i64 a0_2) := (blk_cell BK225.out 2).trans rfl
          have hcz16_3 : wr.cell? ⟨gb225,3,none⟩ = some (.slice A0_3 l0_3.length c0_3) := (blk_cell BK225.out 3).trans rfl
          have hcz16_4 : wr.cell? ⟨gb225,4,none⟩ = some (.slice A0_4 l0_4.length c0_4) := (blk_cell BK225.out 4).trans rfl
          have hcz16_5 : wr.cell? ⟨gb225,5,none⟩ = some (.slice A0_5 l0_5.length c0_5) := (blk_cell BK225.out 5).trans rfl
          have hfz16_0 := blk_frozen BK225.out 0
          have hfz16_1 := blk_frozen BK225.out 1
          have hfz16_2 := blk_frozen BK225.out 2
          have hfz16_3 := blk_frozen BK225.out 3
          have hfz16_4 := blk_frozen BK225.out 4
          have hfz16_5 := blk_frozen BK225.out 5
          have p227 : 0 ≤ (x3_2 : Int) := of_decide_eq_true (by first|(with_reducible assumption)|assumption)
          have q227 : x3_2 < (l0_5.length : Int) := of_decide_eq_true (by first|(with_reducible assumption)|assumption)
          obtain ⟨ad227,A227_0,c227_0,e227,hx227_0,hl227_0,hi227_0⟩ := at_L6 HR0_5.out x3_2 p227 q227
          cases e227
          replace hx227_0 := (HB.out.cell (World.block_lt_of_cell? w _ hx227_0)).trans hx227_0
          have HR227_0 := Aside0.mk hi227_0
          have HC227_0 := Aside0.mk hl227_0
          clear hi227_0 hl227_0
          replace p227 := eq_true p227
          replace q227 := eq_true q227
          go_wp2
          go_ret
          exact ⟨by first|rfl|(simp [errW_none,errW_some] <;> rfl)|(simp [*,errW_none,errW_some] <;> rfl),by repeat (first|(with_reducible first|exact HB.out|apply below_alloc|apply pw_below_drewN|apply below_drew1|refine below_set ?_ GE225.out)|exact HB.out)⟩
         ·rw [if_neg c15] at H
          have c15b0 : decide (300 < ((rd_L6 l0_5 x3_2).length : Int)) = false := decide_eq_false c15
          have c15b1 : decide (300 < (rd_L6 l0_5 x3_2).length) = false := decide_eq_false (by omega)
          clear c15
          have H' := Aside0.mk H
          clear H
          have hcz17_0 : wr.cell? ⟨gb225,0,none⟩ = some (.int .u64 a0_0) := (blk_cell BK225.out 0).trans rfl
          have hcz17_1 : wr.cell? ⟨gb225,1,none⟩ = some (.int .i64 a0_1) := (blk_cell BK225.out 1).trans rfl
          have hcz17_2 : wr.cell? ⟨gb225,2,none⟩ = some (.int .i64 a0_2) := (blk_cell BK225.out 2).trans rfl
          have hcz17_3 : wr.cell? ⟨gb225,3,none⟩ = some (.slice A0_3 l0_3.length c0_3) := (blk_cell BK225.out 3).trans rfl
          have hcz17_4 : wr.cell? ⟨gb225,4,none⟩ = some (.slice A0_4 l0_4.length c0_4) := (blk_cell BK225.out 4).trans rfl
          have hcz17_5 : wr.cell? ⟨gb225,5,none⟩ = some (.slice A0_5 l0_5.length c0_5) := (blk_cell BK225.out 5).trans rfl
          have hfz17_0 := blk_frozen BK225.out 0
          have hfz17_1 := blk_frozen BK225.out 1
          have hfz17_2 := blk_frozen BK225.out 2
          have hfz17_3 := blk_frozen BK225.out 3
          have hfz17_4 := blk_frozen BK225.out 4
          have hfz17_5 := blk_frozen BK225.out 5
          have p227 : 0 ≤ (x3_2 : Int) := of_decide_eq_true (by first|(with_reducible assumption)|assumption)
          have q227 : x3_2 < (l0_5.length : Int) := of_decide_eq_true (by first|(with_reducible assumption)|assumption)
          obtain ⟨ad227,A227_0,c227_0,e227,hx227_0,hl227_0,hi227_0⟩ := at_L6 HR0_5.out x3_2 p227 q227
          cases e227
          replace hx227_0 := (HB.out.cell (World.block_lt_of_cell? w _ hx227_0)).trans hx227_0
          have HR227_0 := Aside0.mk hi227_0
          have HC227_0 := Aside0.mk hl227_0
          clear hi227_0 hl227_0
          replace p227 := eq_true p227
          replace q227 := eq_true q227
          go_wp2
          go_roundg k2
          case measure => have := HJ3.out;have := HK2.out;omega
          case rel => exact ⟨(wrap64 (x3_2 + 1)),(by first|rfl|(simp;done)|(simp [*];done)),H',⟨by have := HJ3.out;have := HK2.out;omega⟩,⟨by (with_reducible repeat (first|refine blk_drewN ?_ _|refine blk_drew ?_|refine blk_alloc ?_ _));exact BK225.out⟩,⟨by repeat (first|(with_reducible first|exact HB.out|apply below_alloc|apply pw_below_drewN|apply below_drew1|refine below_set ?_ GE225.out)|exact HB.out)⟩⟩
        ·rw [if_neg c14] at H
         exact absurd H (by simp)
       ·rw [if_neg c13] at H
        have c13b0 : decide (x3_2 < (l0_5.length : Int)) = false := decide_eq_false c13
        clear c13
        replace H := Option.bind_eq_some_iff.mp H
        obtain ⟨t228,A180,H⟩ := H
        replace H : ((privityref12_ValidScenario.f k2 a0_0 a0_1 a0_2 l0_3 l0_4 l0_5).bind fun t229 => (some (t228 == t229))) = some r := H
        have A18 := Aside0.mk A180
        clear A180
        replace H := Option.bind_eq_some_iff.mp H
        obtain ⟨t229,A190,H⟩ := H
        replace H : (some (t228 == t229)) = some r := H
        have A19 := Aside0.mk A190
        clear A190
        obtain rfl := Option.some.inj H
        have hcz20_0 : wr.cell? ⟨gb225,0,none⟩ = some (.int .u64 a0_0) := (blk_cell BK225.out 0).trans rfl
        have hcz20_1 : wr.cell? ⟨gb225,1,none⟩ = some (.int .i64 a0_1) := (blk_cell BK225.out 1).trans rfl
        have hcz20_2 : wr.cell? ⟨gb225,2,none⟩ = some (.int .i64 a0_2) := (blk_cell BK225.out 2).trans rfl
        have hcz20_3 : wr.cell? ⟨gb225,3,none⟩ = some (.slice A0_3 l0_3.length c0_3) := (blk_cell BK225.out 3).trans rfl
        have hcz20_4 : wr.cell? ⟨gb225,4,none⟩ = some (.slice A0_4 l0_4.length c0_4) := (blk_cell BK225.out 4).trans rfl
        have hcz20_5 : wr.cell? ⟨gb225,5,none⟩ = some (.slice A0_5 l0_5.length c0_5) := (blk_cell BK225.out 5).trans rfl
        have hfz20_0 := blk_frozen BK225.out 0
        have hfz20_1 := blk_frozen BK225.out 1
        have hfz20_2 := blk_frozen BK225.out 2
        have hfz20_3 := blk_frozen BK225.out 3
        have hfz20_4 := blk_frozen BK225.out 4
        have hfz20_5 := blk_frozen BK225.out 5
        try go_wp2
        have n0_ := Aside0.mk (blk_drew BK225.out)
        have n1_ := Aside0.mk (below_drew1 HB.out)
        clear BK225
        clear HB
        have BK225 := n0_
        have HB := n1_
        clear n0_ n1_
        refine start_ (n := 6) (S := fun w' => w'.cell? ⟨gb225,0,none⟩ = some (.int .u64 a0_0) ∧ w'.cell? ⟨gb225,1,none⟩ = some (.int .i64 a0_1) ∧ w'.cell? ⟨gb225,2,none⟩ = some (.int .i64 a0_2) ∧ w'.cell? ⟨gb225,3,none⟩ = some (.slice A0_3 l0_3.length c0_3) ∧ w'.cell? ⟨gb225,4,none⟩ = some (.slice A0_4 l0_4.length c0_4) ∧ w'.cell? ⟨gb225,5,none⟩ = some (.slice A0_5 l0_5.length c0_5)) (ds := []) #[false,false,false,false,false,false] (by kernel_rfl) rfl rfl ⟨(blk_cell BK225.out 0).trans rfl,(blk_cell BK225.out 1).trans rfl,(blk_cell BK225.out 2).trans rfl,(blk_cell BK225.out 3).trans rfl,(blk_cell BK225.out 4).trans rfl,(blk_cell BK225.out 5).trans rfl⟩ (fun hHeld => ?_)
        generalize wr.drew = w21 at BK225 HB hHeld ⊢
        refine take_ (i := 0) (N := some 36) (v := ?_) (a' := ?_) #[true,false,false,false,false,false] rfl rfl (by kernel_rfl) (fun _ _ _ h => h) (Or.inl ⟨by rfl,?_⟩) hHeld ?_ ?_
        rotate_left
        ·rintro w' ⟨s0,s1,s2,s3,s4,s5⟩
         go_simp
         with_reducible rfl
        rotate_left
        ·simp only [Act.put,List.setIfInBounds_toArray,List.set_cons_zero,List.set_cons_succ,i64_w,i32_w]
         rfl
        refine take_ (i := 2) (N := some 38) (v := ?_) (a' := ?_) #[true,false,true,false,false,false] rfl rfl (by kernel_rfl) (fun _ _ _ h => h) (Or.inl ⟨by rfl,?_⟩) hHeld ?_ ?_
        rotate_left
        ·rintro w' ⟨s0,s1,s2,s3,s4,s5⟩
         go_simp
         with_reducible rfl
        rotate_left
        ·simp only [Act.put,List.setIfInBounds_toArray,List.set_cons_zero,List.set_cons_succ,i64_w,i32_w]
         rfl
        refine one_ (i := 1) (N := some 37) #[true,true,true,false,false,false] rfl rfl (by kernel_rfl) (by decide) (fun K hK => ?_)
        refine goes_ Tryd.func14 (by kernel_rfl) rfl #[.agg #[.int .u64 a0_0,.int .i64 a0_1,.int .i64 a0_2,.slice A0_3 l0_3.length c0_3,.slice A0_4 l0_4.length c0_4,.slice A0_5 l0_5.length c0_5]] (by rfl) rfl rfl (by (try simp only [List.map_toArray,List.map_cons,List.map_nil]);first|done|rfl|(simp only [List.length_drop,List.length_take];rfl)) ?_
        with_reducible refine (params_ValidScenario.calls a0_0 a0_1 a0_2 _ _ l0_3 _ _ l0_4 _ _ l0_5 t228 _ ?side1 ?side2 ?side3 ?side4 ?side5 ?side6 ?sidehx A18.out).mono ?_
        (case sidehx => repeat (first|exact HX_.out|exact (Hx_below HX_.out HB.out)|(with_reducible refine Hx_alloc ?_ _)|(with_reducible refine Hx_drewN ?_ _)|(with_reducible refine Hx_drew ?_)))
        (case side1 => repeat (first|exact (Kd.C_below HR0_3.out HB.out)|(with_reducible refine Kd.C_alloc ?_ _)|(with_reducible refine Kd.C_drewN ?_ _)|(with_reducible refine Kd.C_drew ?_)))
        (case side2 => exact HC0_3.out)
        (case side3 => repeat (first|exact (Kd.C_below HR0_4.out HB.out)|(with_reducible refine Kd.C_alloc ?_ _)|(with_reducible refine Kd.C_drewN ?_ _)|(with_reducible refine Kd.C_drew ?_)))
        (case side4 => exact HC0_4.out)
        (case side5 => repeat (first|exact (Kd.C_below HR0_5.out HB.out)|(with_reducible refine Kd.C_alloc ?_ _)|(with_reducible refine Kd.C_drewN ?_ _)|(with_reducible refine Kd.C_drew ?_)))
        (case side6 => exact HC0_5.out)
        rintro e w22 ⟨rfl,hb⟩
        refine ⟨_,rfl,?_⟩
        have n0_ := Aside0.mk (blk_below (g := gb225) (o := .cells #[.int .u64 a0_0,.int .i64 a0_1,.int .i64 a0_2,.slice A0_3 l0_3.length c0_3,.slice A0_4 l0_4.length c0_4,.slice A0_5 l0_5.length c0_5] 32 (0,0)) (by (with_reducible repeat (first|refine blk_drewN ?_ _|refine blk_drew ?_|refine blk_alloc ?_ _));exact BK225.out) hb)
        have n1_ := Aside0.mk (below_step (by repeat (first|(with_reducible first|exact HB.out|apply below_alloc|apply pw_below_drewN|apply below_drew1|refine below_set ?_ GE225.out)|exact HB.out)) hb)
        clear BK225
        clear HB
        have BK225 := n0_
        have HB := n1_
        clear n0_ n1_
        (try clear hb)
        (try clear hb2)
        (try clear hk)
        (try clear hi)
        refine hK.out _ _ ⟨(blk_cell BK225.out 0).trans rfl,(blk_cell BK225.out 1).trans rfl,(blk_cell BK225.out 2).trans rfl,(blk_cell BK225.out 3).trans rfl,(blk_cell BK225.out 4).trans rfl,(blk_cell BK225.out 5).trans rfl⟩ (fun hHeld => ?_)
        clear hK K
        refine norm_ (a' := ?_) ?_ ?_
        rotate_left
        ·show Act.put _ (some 37) _ = _
         simp only [Act.put,List.setIfInBounds_toArray,List.set_cons_zero,List.set_cons_succ,i64_w,i32_w]
         rfl
        refine one_ (i := 3) (N := some 39) #[true,true,true,true,false,false] rfl rfl (by kernel_rfl) (by decide) (fun K hK => ?_)
        refine goes_ Tryd.func15 (by kernel_rfl) rfl #[.agg #[.int .u64 a0_0,.int .i64 a0_1,.int .i64 a0_2,.slice A0_3 l0_3.length c0_3,.slice A0_4 l0_4.length c0_4,.slice A0_5 l0_5.length c0_5]] (by rfl) rfl rfl (by (try simp only [List.map_toArray,List.map_cons,List.map_nil]);first|done|rfl|(simp only [List.length_drop,List.length_take];rfl)) ?_
        with_reducible refine (privityref12_ValidScenario.calls k2 a0_0 a0_1 a0_2 _ _ l0_3 _ _ l0_4 _ _ l0_5 t229 _ ?side1 ?side2 ?side3 ?side4 ?side5 ?side6 A19.out).mono ?_
        (case side1 => repeat (first|exact (Kd.C_below HR0_3.out HB.out)|(with_reducible refine Kd.C_alloc ?_ _)|(with_reducible refine Kd.C_drewN ?_ _)|(with_reducible refine Kd.C_drew ?_)))
        (case side2 => exact HC0_3.out)
        (case side3 => repeat (first|exact (Kd.C_below HR0_4.out HB.out)|(with_reducible refine Kd.C_alloc ?_ _)|(with_reducible refine Kd.C_drewN ?_ _)|(with_reducible refine Kd.C_drew ?_)))
        (case side4 => exact HC0_4.out)
        (case side5 => repeat (first|exact (Kd.C_below HR0_5.out HB.out)|(with_reducible refine Kd.C_alloc ?_ _)|(with_reducible refine Kd.C_drewN ?_ _)|(with_reducible refine Kd.C_drew ?_)))
        (case side6 => exact HC0_5.out)
        rintro e w23 ⟨rfl,hb⟩
        refine ⟨_,rfl,?_⟩
        have n0_ := Aside0.mk (blk_below (g := gb225) (o := .cells #[.int .u64 a0_0,.int .i64 a0_1,.int .i64 a0_2,.slice A0_3 l0_3.length c0_3,.slice A0_4 l0_4.length c0_4,.slice A0_5 l0_5.length c0_5] 32 (0,0)) (by (with_reducible repeat (first|refine blk_drewN ?_ _|refine blk_drew ?_|refine blk_alloc ?_ _));exact BK225.out) hb)
        have n1_ := Aside0.mk (below_step (by repeat (first|(with_reducible first|exact HB.out|apply below_alloc|apply pw_below_drewN|apply below_drew1|refine below_set ?_ GE225.out)|exact HB.out)) hb)
        clear BK225
        clear HB
        have BK225 := n0_
        have HB := n1_
        clear n0_ n1_
        (try clear hb)
        (try clear hb2)
        (try clear hk)
        (try clear hi)
        refine hK.out _ _ ⟨(blk_cell BK225.out 0).trans rfl,(blk_cell BK225.out 1).trans rfl,(blk_cell BK225.out 2).trans rfl,(blk_cell BK225.out 3).trans rfl,(blk_cell BK225.out 4).trans rfl,(blk_cell BK225.out 5).trans rfl⟩ (fun hHeld => ?_)
        clear hK K
        refine norm_ (a' := ?_) ?_ ?_
        rotate_left
        ·show Act.put _ (some 39) _ = _
         simp only [Act.put,List.setIfInBounds_toArray,List.set_cons_zero,List.set_cons_succ,i64_w,i32_w]
         rfl
        refine pure_ (i := 4) (N := some 40) (v := ?_) (a' := ?_) #[true,true,true,true,true,false] rfl rfl (by kernel_rfl) (fun _ _ _ h => h) (Or.inl ⟨by rfl,?_⟩) ?_ ?_
        rotate_left
        ·intro w'
         go_simp
         with_reducible rfl
        rotate_left
        ·simp only [Act.put,List.setIfInBounds_toArray,List.set_cons_zero,List.set_cons_succ,i64_w,i32_w]
         rfl
        refine pure_ (i := 5) (N := some 2) (v := ?_) (a' := ?_) #[true,true,true,true,true,true] rfl rfl (by kernel_rfl) (fun _ _ _ h => h) (Or.inl ⟨by rfl,?_⟩) ?_ ?_
        rotate_left
        ·intro w'
         go_simp
         with_reducible rfl
        rotate_left
        ·simp only [Act.put,List.setIfInBounds_toArray,List.set_cons_zero,List.set_cons_succ,i64_w,i32_w]
         rfl
        refine done_ (by kernel_rfl) ?_
        try go_wp2
        go_ret
        exact ⟨by first|rfl|(simp [errW_none,errW_some] <;> rfl)|(simp [*,errW_none,errW_some] <;> rfl),by repeat (first|(with_reducible first|exact HB.out|apply below_alloc|apply pw_below_drewN|apply below_drew1|refine below_set ?_ GE225.out)|exact HB.out)⟩
 ·replace c3 := Bool.eq_false_iff.mpr c3
  subst c3
  have H1 : (some false) = some r := by rw [if_neg (show ¬ (false = true) by decide)] at H;exact H
  clear H
  have H := H1
  clear H1
  exact absurd (Option.some.inj H) (by rw [HRT_.out];simp)
end Go.Proofs.YtakaonojfpkhnaaDoor.Pr
end
section
/- Printed by a program of this seat (the kit's printer, with the functions that were proved by hand given to it). What stands here: the functions that the statements reach, as plain functions, and that the Go code computes them. -/
namespace Go.Proofs.YtakaonojfpkhnaaDoor.Pr
open Go.RowKit Go.Proofs.YtakaonojfpkhnaaDoorW.PrintWords Go.Proofs.YtakaonojfpkhnaaDoorW.PrintLast Go.Proofs.YtakaonojfpkhnaaDoorW.PrintMore
attribute [local go_sem] max2_int min2_int max_two min_two max_three min_three max_four min_four   -- for this text's walks alone
set_option linter.unusedVariables false
set_option linter.unusedSimpArgs false

open Go.Proofs.YtakaonojfpkhnaaDoor.Hw
/-! ### privityref04_Mul: function 41 -/
end Go.Proofs.YtakaonojfpkhnaaDoor.Pr
end
section
/-
  The reference of layer 4: what its printed functions answer.
-/
namespace Go.Proofs.YtakaonojfpkhnaaDoor.E
open Go.RowKit Go.Proofs.YtakaonojfpkhnaaDoor.Pr Go.Proofs.YtakaonojfpkhnaaDoor.Hw Go.Proofs.YtakaonojfpkhnaaDoor.Pl Go.Proofs.YtakaonojfpkhnaaDoorW.PrintWords Go.Proofs.YtakaonojfpkhnaaDoorW.PrintLast Go.Proofs.YtakaonojfpkhnaaDoorW.PrintMore
set_option linter.unusedVariables false
set_option linter.unusedSimpArgs false

/-! ### Coefficients of what the program adds up -/
/-! ### Sum -/
end Go.Proofs.YtakaonojfpkhnaaDoor.E
end
section
/-
  The reference of layer 5: what its printed functions answer.
-/
namespace Go.Proofs.YtakaonojfpkhnaaDoor.E
open Go.RowKit Go.Proofs.YtakaonojfpkhnaaDoor.Pr Go.Proofs.YtakaonojfpkhnaaDoor.Hw Go.Proofs.YtakaonojfpkhnaaDoor.Pl Go.Proofs.YtakaonojfpkhnaaDoorW.PrintWords Go.Proofs.YtakaonojfpkhnaaDoorW.PrintLast Go.Proofs.YtakaonojfpkhnaaDoorW.PrintMore
set_option linter.unusedVariables false
set_option linter.unusedSimpArgs false

/-- A loop that answers false at the first i that Q does not hold of. -/
theorem allLoop {F : Nat → Int → Option Bool} {n : Nat} {Q : Nat → Prop} [DecidablePred Q] (hend : ∀ k, F (k + 1) (n : Int) = some true) (hyes : ∀ i, i < n → Q i → ∀ r, Ev (fun k => F k ((i + 1 : Nat) : Int)) r → Ev (fun k => F k (i : Int)) r)
    (hno : ∀ i, i < n → ¬ Q i → Ev (fun k => F k (i : Int)) false) (r : Bool) (hr : r = true ↔ ∀ i, i < n → Q i) : Ev (fun k => F k ((0 : Nat) : Int)) r := by
  have main : ∀ d i, i + d = n → ∀ r : Bool, (r = true ↔ ∀ j, i ≤ j → j < n → Q j) → Ev (fun k => F k (i : Int)) r := by
    intro d
    induction d with
    | zero =>
      intro i hi r hr
      have : i = n := by omega
      subst this
      have : r = true := hr.2 (fun j h1 h2 => by omega)
      subst this
      exact Ev.step (fun k => hend k) (Ev.now _)
    | succ d ih =>
      intro i hi r hr
      by_cases h : Q i
      · refine hyes i (by omega) h r (ih (i + 1) (by omega) r ⟨fun e j h1 h2 => hr.1 e j (by omega) h2, fun e => hr.2 fun j h1 h2 => ?_⟩)
        by_cases e2 : j = i
        · rw [e2]; exact h
        · exact e j (by omega) h2
      · have : r = false := by
          cases r with
          | false => rfl
          | true => exact absurd (hr.1 rfl i (Nat.le_refl _) (by omega)) h
        subst this
        exact hno i (by omega) h
  exact main n 0 (by omega) r ⟨fun e j _ h2 => hr.1 e j h2, fun e => hr.2 fun j h => e j (Nat.zero_le _) h⟩
def belowB (p : Int) (l : List Int) : Bool := l.all fun x => decide (x < p)
theorem below_ev (p : Int) (l : List Int) (hl : l.length ≤ 1000000000) : Ev (fun k => privityref05_Below.f k p l) (belowB p l) := by
  have h := allLoop (F := fun k i => privityref05_Below.l0 k p l i) (n := l.length) (Q := fun i => l.getD i 0 < p) (fun k => ?_) (fun i hi hq r h => ?_) (fun i hi hq => ?_) (belowB p l) ?_
  · exact h
  · simp only [privityref05_Below.l0]
    rw [if_neg (by omega)]
  · refine Ev.step (fun k => ?_) h
    simp only [privityref05_Below.l0]
    rw [if_pos (by omega), if_pos (by omega), rd_nat, if_neg (by omega), wnat (by omega)]
  · refine Ev.step (fun k => ?_) (Ev.now _)
    simp only [privityref05_Below.l0]
    rw [if_pos (by omega), if_pos (by omega), rd_nat, if_pos (by omega)]
  · unfold belowB
    rw [List.all_eq_true]
    refine ⟨fun h i hi => ?_, fun h x hx => ?_⟩
    · rw [Hw.getD_in _ _ hi]; exact of_decide_eq_true (h _ (List.getElem_mem hi))
    · obtain ⟨i, hi, rfl⟩ := List.getElem_of_mem hx
      have := h i hi
      rw [Hw.getD_in _ _ hi] at this
      exact decide_eq_true this
end Go.Proofs.YtakaonojfpkhnaaDoor.E
end
section
/- Printed by a program of this seat (the kit's printer, with the functions that were proved by hand given to it). What stands here: the functions that the statements reach, as plain functions, and that the Go code computes them. -/
namespace Go.Proofs.YtakaonojfpkhnaaDoor.Pr
open Go.RowKit Go.Proofs.YtakaonojfpkhnaaDoorW.PrintWords Go.Proofs.YtakaonojfpkhnaaDoorW.PrintLast Go.Proofs.YtakaonojfpkhnaaDoorW.PrintMore
attribute [local go_sem] max2_int min2_int max_two min_two max_three min_three max_four min_four   -- for this text's walks alone
set_option linter.unusedVariables false
set_option linter.unusedSimpArgs false

open Go.Proofs.YtakaonojfpkhnaaDoor.Hw
/-! ### privityref12_In: function 21 -/
/-! ### privityref12_ExtendCoalition: function 19 -/
/-! ### privityref12_HonestParties: function 20 -/
end Go.Proofs.YtakaonojfpkhnaaDoor.Pr
end
section
/- Printed by a program of this seat (the kit's printer, with the functions that were proved by hand given to it). What stands here: the functions that the statements reach, as plain functions, and that the Go code computes them. -/
namespace Go.Proofs.YtakaonojfpkhnaaDoor.Pr
open Go.RowKit Go.Proofs.YtakaonojfpkhnaaDoorW.PrintWords Go.Proofs.YtakaonojfpkhnaaDoorW.PrintLast Go.Proofs.YtakaonojfpkhnaaDoorW.PrintMore
attribute [local go_sem] max2_int min2_int max_two min_two max_three min_three max_four min_four   -- for this text's walks alone
set_option linter.unusedVariables false
set_option linter.unusedSimpArgs false

open Go.Proofs.YtakaonojfpkhnaaDoor.Hw
/-! ### privityref12_VanishingPolynomial: function 26 -/
end Go.Proofs.YtakaonojfpkhnaaDoor.Pr
end
section
/-
  What the statements of chapter 12 share: valid parameters and coalitions, the extended coalition, the vanishing polynomial.
-/
namespace Go.Proofs.YtakaonojfpkhnaaDoor.E
open Go.RowKit Go.Proofs.YtakaonojfpkhnaaDoor.Pr Go.Proofs.YtakaonojfpkhnaaDoor.Hw Go.Proofs.YtakaonojfpkhnaaDoor.Pl Go.Proofs.YtakaonojfpkhnaaDoorW.PrintWords Go.Proofs.YtakaonojfpkhnaaDoorW.PrintLast Go.Proofs.YtakaonojfpkhnaaDoorW.PrintMore
set_option linter.unusedVariables false
set_option linter.unusedSimpArgs false

/-! Valid parameters and coalitions. -/
theorem val12_ev (p N T : Int) : Ev (fun k => privityref12_Valid.f k p N T) (val12B p N T) := by
  unfold privityref12_Valid.f
  refine ev_if (supported_ev p) (fun h => ?_) (fun h => ?_)
  · unfold val12B
    rw [h, Bool.true_and]
    refine Ev.congr (fun k => ?_) (Ev.now _)
    by_cases h1 : 4 ≤ N
    · rw [if_pos h1]
      by_cases h2 : N ≤ 13
      · rw [if_pos h2, wrapU_id (by omega) (by omega)]
        by_cases h3 : N < p
        · rw [if_pos h3]
          by_cases h4 : 1 ≤ T
          · rw [if_pos h4]
            by_cases h5 : T < N
            · rw [if_pos h5, w64' (by omega) (by omega)]
              by_cases h6 : 3 * T < N
              · rw [decide_eq_true h6, decide_eq_true ⟨h1, h2, h3, h4, h5, h6⟩]
              · rw [decide_eq_false h6, decide_eq_false fun h => h6 h.2.2.2.2.2]
            · rw [if_neg h5, decide_eq_false fun h => h5 h.2.2.2.2.1]
          · rw [if_neg h4, decide_eq_false fun h => h4 h.2.2.2.1]
        · rw [if_neg h3, decide_eq_false fun h => h3 h.2.2.1]
      · rw [if_neg h2, decide_eq_false fun h => h2 h.2.1]
    · rw [if_neg h1, decide_eq_false fun h => h1 h.1]
  · have : val12B p N T = false := by unfold val12B; rw [h]; rfl
    rw [this]; exact Ev.now _
theorem coa12_ev (p N T : Int) (l : List Int) : Ev (fun k => privityref12_ValidCoalition.f k p N T l) (coaB p N T l) := by
  unfold privityref12_ValidCoalition.f
  have hno : ∀ r, r = false → Ev (fun k => privityref12_ValidCoalition.j0 k l true p N T) r := fun r hr => by
    subst hr
    refine Ev.step (fun k => ?_) (Ev.now _)
    simp only [privityref12_ValidCoalition.j0]
    rw [if_pos trivial]
  refine ev_if (val12_ev p N T) (fun h => ?_) (fun h => hno _ (by unfold coaB; rw [h]; rfl))
  unfold coaB
  rw [h, Bool.true_and]
  unfold val12B at h
  rw [Bool.and_eq_true, decide_eq_true_eq] at h
  obtain ⟨_, a1, a2, a3, a4, a5, a6⟩ := h
  by_cases hl : (l.length : Int) > T
  · rw [decide_eq_true hl]
    exact hno _ (by rw [decide_eq_false (by omega)]; rfl)
  · rw [decide_eq_false hl, decide_eq_true (by omega), Bool.true_and]
    refine Ev.step (f := fun k => privityref12_ValidCoalition.l0 k l ((0 : Nat) : Int) p N T) (fun k => ?_) ?_
    · simp only [privityref12_ValidCoalition.j0]
      rw [if_neg (by simp)]; rfl
    · refine allQ (F := fun k i => privityref12_ValidCoalition.l0 k l i p N T) (n := l.length) (Q := IncAt N l) (e := true) ?_ (fun i hi hq r h => ?_) (fun i hi hq => ?_) (incB N l) (by unfold incB; rw [decide_eq_true_iff]; exact ⟨fun h => ⟨h, rfl⟩, fun h => h.1⟩)
      · refine Ev.step (fun k => ?_) (Ev.now _)
        simp only [privityref12_ValidCoalition.l0]
        rw [if_neg (by omega)]
      · obtain ⟨q1, q2, q3⟩ := hq
        refine Ev.step (fun k => ?_) h
        simp only [privityref12_ValidCoalition.l0]
        rw [if_pos (by omega), if_pos (by omega), rd_nat, if_neg (by omega), if_neg (by omega), wnat (by omega)]
        by_cases h0 : i = 0
        · rw [if_neg (by omega)]
        · rw [if_pos (by omega), w64' (n := (i : Int) - 1) (by omega) (by omega), if_pos (by omega), if_pos (by omega), show (i : Int) - 1 = ((i - 1 : Nat) : Int) from by omega, rd_nat, if_neg (by have := q3.resolve_left h0; omega)]
      · refine Ev.step (fun k => ?_) (Ev.now _)
        simp only [privityref12_ValidCoalition.l0]
        rw [if_pos (by omega), if_pos (by omega), rd_nat]
        by_cases q1 : l.getD i 0 < 1
        · rw [if_pos q1]
        · rw [if_neg q1]
          by_cases q2 : l.getD i 0 > N
          · rw [if_pos q2]
          · have h0 : i ≠ 0 := fun e => hq ⟨by omega, by omega, .inl e⟩
            rw [if_neg q2, if_pos (by omega), w64' (n := (i : Int) - 1) (by omega) (by omega), if_pos (by omega), if_pos (by omega), show (i : Int) - 1 = ((i - 1 : Nat) : Int) from by omega, rd_nat, if_pos (Int.not_lt.1 fun h => hq ⟨by omega, by omega, .inr h⟩)]
/-- Valid parameters and a valid coalition. -/
structure Ok12 (p N T : Int) (bad : List Int) : Prop where
  hp : Supp p
  np : N < p
  coa : CoaB N T bad
/-! The vanishing polynomial. -/
/-! The program's own functions, and the reference's. -/
theorem Ok12.len {p N T : Int} {bad : List Int} (h : Ok12 p N T bad) : bad.length ≤ 13 ∧ (extB N T bad).length ≤ 13 := by
  have h1 := h.coa.n0
  have h2 := h.coa.n1
  have h3 := h.coa.len
  have h4 := h.coa.t1
  have h5 := extB_length h.coa
  omega
end Go.Proofs.YtakaonojfpkhnaaDoor.E
end
section
/-
  What the statements of chapter 12 share: the first check.
-/
namespace Go.Proofs.YtakaonojfpkhnaaDoor.E
open Go.RowKit Go.Proofs.YtakaonojfpkhnaaDoor.Pr Go.Proofs.YtakaonojfpkhnaaDoor.Hw Go.Proofs.YtakaonojfpkhnaaDoor.Pl Go.Proofs.YtakaonojfpkhnaaDoorW.PrintWords Go.Proofs.YtakaonojfpkhnaaDoorW.PrintLast Go.Proofs.YtakaonojfpkhnaaDoorW.PrintMore
set_option linter.unusedVariables false
set_option linter.unusedSimpArgs false

theorem awake12 : Ev (fun _ => privitylaw12_awake.f) true := Ev.now _
end Go.Proofs.YtakaonojfpkhnaaDoor.E
end
section
/-
  Valid scenarios, as the reference tells them.
-/
namespace Go.Proofs.YtakaonojfpkhnaaDoor.E
open Go.RowKit Go.Proofs.YtakaonojfpkhnaaDoor.Pr Go.Proofs.YtakaonojfpkhnaaDoor.Hw Go.Proofs.YtakaonojfpkhnaaDoor.E Go.Proofs.YtakaonojfpkhnaaDoor.Pl Go.Proofs.YtakaonojfpkhnaaDoorW.PrintWords Go.Proofs.YtakaonojfpkhnaaDoorW.PrintLast Go.Proofs.YtakaonojfpkhnaaDoorW.PrintMore
set_option linter.unusedVariables false
set_option linter.unusedSimpArgs false

theorem dev_eq (p N T : Int) (x : S42) : privityref12_Deviation.f p N T x.f0 x.f1 x.f2 x.f3 x.f4 x.f5 x.f6 x.f7 = some (lieB N x) := by
  unfold privityref12_Deviation.f lieB
  refine ite_some (ite_some (ite_some (ite_some (ite_some (ite_some (ite_some (ite_some (ite_some ?_))))))))
  by_cases h3 : x.f4 = 3
  · rw [if_pos h3, if_pos h3]
    by_cases h1 : x.f6 ≥ 1
    · rw [if_pos (by omega), decide_eq_true h1, Bool.true_and]
      by_cases h2 : x.f6 ≤ N
      · rw [if_pos h2, decide_eq_true h2]
      · rw [if_neg h2, decide_eq_false h2]
    · rw [decide_eq_false h1, Bool.false_and]
      by_cases h0 : x.f6 ≥ 0
      · rw [if_pos h0]
        by_cases h2 : x.f6 ≤ N
        · rw [if_pos h2]
        · rw [if_neg h2]
      · rw [if_neg h0]
  · rw [if_neg h3, if_neg h3]
    refine ite_some ?_
    by_cases h2 : x.f6 ≤ N
    · rw [if_pos h2, decide_eq_true h2]
    · rw [if_neg h2, decide_eq_false h2]
theorem rdD_in (d : List S42) (i : Nat) (h : i < d.length) : rd_T42 d (i : Int) = d[i] := by unfold rd_T42; rw [Int.toNat_natCast, List.getD_eq_getElem?_getD, List.getElem?_eq_getElem h]; rfl
theorem rdR_in (t : List (List Int)) (i : Nat) (h : i < t.length) : rd_L6 t (i : Int) = t[i] := by unfold rd_L6; rw [Int.toNat_natCast, List.getD_eq_getElem?_getD, List.getElem?_eq_getElem h]; rfl
theorem allD (q : S42 → Bool) (d : List S42) : d.all q = true ↔ ∀ i, i < d.length → q (rd_T42 d (i : Int)) = true := by
  rw [List.all_eq_true]
  refine ⟨fun h i hi => by rw [rdD_in d i hi]; exact h _ (List.getElem_mem hi), fun h x hx => ?_⟩
  obtain ⟨i, hi, rfl⟩ := List.getElem_of_mem hx
  rw [← rdD_in d i hi]; exact h i hi
theorem allR (q : List Int → Bool) (t : List (List Int)) : t.all q = true ↔ ∀ i, i < t.length → q (rd_L6 t (i : Int)) = true := by
  rw [List.all_eq_true]
  refine ⟨fun h i hi => by rw [rdR_in t i hi]; exact h _ (List.getElem_mem hi), fun h x hx => ?_⟩
  obtain ⟨i, hi, rfl⟩ := List.getElem_of_mem hx
  rw [← rdR_in t i hi]; exact h i hi
theorem not_any_all {α : Type} (q : α → Bool) (l : List α) : (!l.any fun x => !q x) = l.all q := by
  induction l with
  | nil => rfl
  | cons x l ih => rw [List.any_cons, List.all_cons, ← ih]; cases q x <;> simp
theorem scnB_eq (p N T : Int) (l : List Int) (d : List S42) (t : List (List Int)) : scnB p N T l d t = (coaB p N T l && (decide ((t.length : Int) = N) && (d.all (lieB N) && t.all (belowB p)))) := by
  unfold scnB
  have h1 : (fun y : List Int => y.any fun z => decide (p ≤ z)) = fun y => !belowB p y := by
    funext y
    unfold belowB
    rw [← not_any_all, Bool.not_not]
    refine congrArg (fun f => y.any f) (funext fun z => ?_)
    by_cases h : p ≤ z
    · rw [decide_eq_true h, decide_eq_false (by omega)]; rfl
    · rw [decide_eq_false h, decide_eq_true (by omega)]; rfl
  rw [not_any_all, h1, not_any_all]
theorem rscn_l1 (p N T : Int) (l : List Int) (d : List S42) (t : List (List Int)) (lt : t.length ≤ 1000000) (lx : ∀ i, i < t.length → (rd_L6 t (i : Int)).length ≤ 1000000) : Ev (fun k => privityref12_ValidScenario.l1 k 0 p N T l d t) (t.all (belowB p)) := by
  have := allQ (F := fun k i => privityref12_ValidScenario.l1 k i p N T l d t) (n := t.length) (Q := fun i => belowB p (rd_L6 t (i : Int)) = true) (e := true) ?_ (fun i hi hq r h => ?_) (fun i hi hq => ?_) (t.all (belowB p)) (by rw [allR]; exact ⟨fun h => ⟨h, rfl⟩, fun h => h.1⟩)
  · exact this
  · refine Ev.step (fun k => ?_) (Ev.now _)
    simp only [privityref12_ValidScenario.l1]
    rw [if_neg (by omega)]
  · refine Ev.step (f := fun k => (privityref05_Below.f k p (rd_L6 t (i : Int))).bind fun t278 => (if t278 = true then (privityref12_ValidScenario.l1 k ((i + 1 : Nat) : Int) p N T l d t) else (some false))) (fun k => ?_) ?_
    · simp only [privityref12_ValidScenario.l1]
      rw [if_pos (by omega), if_pos (by omega), wnat (by omega)]
    · have hb := below_ev p (rd_L6 t (i : Int)) (by have := lx i hi; omega)
      rw [hq] at hb
      exact ev_if hb (fun _ => h) (fun e => by cases e)
  · refine Ev.step (f := fun k => (privityref05_Below.f k p (rd_L6 t (i : Int))).bind fun t278 => (if t278 = true then (privityref12_ValidScenario.l1 k ((i + 1 : Nat) : Int) p N T l d t) else (some false))) (fun k => ?_) ?_
    · simp only [privityref12_ValidScenario.l1]
      rw [if_pos (by omega), if_pos (by omega), wnat (by omega)]
    · have hb := below_ev p (rd_L6 t (i : Int)) (by have := lx i hi; omega)
      rw [Bool.eq_false_iff.mpr hq] at hb
      exact ev_if hb (fun e => by cases e) (fun _ => Ev.now _)
theorem rscn_l0 (p N T : Int) (l : List Int) (d : List S42) (t : List (List Int)) (ld : d.length ≤ 1000000) (lt : t.length ≤ 1000000) (lx : ∀ i, i < t.length → (rd_L6 t (i : Int)).length ≤ 1000000) : Ev (fun k => privityref12_ValidScenario.l0 k 0 p N T l d t) (d.all (lieB N) && t.all (belowB p)) := by
  have := allQ (F := fun k i => privityref12_ValidScenario.l0 k i p N T l d t) (n := d.length) (Q := fun i => lieB N (rd_T42 d (i : Int)) = true) (e := t.all (belowB p)) ?_ (fun i hi hq r h => ?_) (fun i hi hq => ?_) (d.all (lieB N) && t.all (belowB p)) (by rw [Bool.and_eq_true, allD])
  · exact this
  · refine Ev.step (fun k => ?_) (rscn_l1 p N T l d t lt lx)
    simp only [privityref12_ValidScenario.l0]
    rw [if_neg (by omega)]
  · refine Ev.step (fun k => ?_) h
    simp only [privityref12_ValidScenario.l0]
    rw [if_pos (by omega), if_pos (by omega), dev_eq, Option.bind_some, hq, if_pos rfl, wnat (by omega)]
  · refine Ev.step (fun k => ?_) (Ev.now _)
    simp only [privityref12_ValidScenario.l0]
    rw [if_pos (by omega), if_pos (by omega), dev_eq, Option.bind_some, if_neg hq]
theorem rscn_ev (p N T : Int) (l : List Int) (d : List S42) (t : List (List Int)) (ld : d.length ≤ 1000000) (lt : t.length ≤ 1000000) (lx : ∀ i, i < t.length → (rd_L6 t (i : Int)).length ≤ 1000000) : Ev (fun k => privityref12_ValidScenario.f k p N T l d t) (scnB p N T l d t) := by
  rw [scnB_eq]
  unfold privityref12_ValidScenario.f
  have hno : Ev (fun k => privityref12_ValidScenario.j0 k true p N T l d t) false := by
    refine Ev.step (fun k => ?_) (Ev.now _)
    simp only [privityref12_ValidScenario.j0]
    rw [if_pos trivial]
  refine ev_if (val12_ev p N T) (fun h => ?_) (fun h => ?_)
  · refine ev_if (coa12_ev p N T l) (fun h2 => ?_) (fun h2 => ?_)
    · rw [h2, Bool.true_and]
      by_cases hl : (t.length : Int) = N
      · rw [decide_eq_true hl, Bool.true_and, bne_eq_false_iff_eq.mpr hl]
        refine Ev.step (fun k => ?_) (rscn_l0 p N T l d t ld lt lx)
        simp only [privityref12_ValidScenario.j0]
        rw [if_neg (by simp)]
      · rw [decide_eq_false hl, bne_iff_ne.mpr hl]
        exact hno
    · rw [h2]; exact hno
  · have : coaB p N T l = false := by unfold coaB; rw [h]; rfl
    rw [this]; exact hno
theorem pscn_eq {p N T : Int} {l : List Int} {d : List S42} {t : List (List Int)} (ld : d.length ≤ 1000000) (lt : t.length ≤ 1000000) (lx : ∀ i, i < t.length → (rd_L6 t (i : Int)).length ≤ 1000000) : params_ValidScenario.f p N T l d t = some (scnB p N T l d t) := by
  unfold params_ValidScenario.f
  rw [if_pos ld, if_pos lt, if_pos]
  rw [allR]
  exact fun i hi => decide_eq_true (lx i hi)
end Go.Proofs.YtakaonojfpkhnaaDoor.E
end
section
/-
  ValidScenario answers as the reference does.
-/
namespace Go.Proofs.YtakaonojfpkhnaaDoor.Pure
open Go.RowKit Go.Proofs.YtakaonojfpkhnaaDoor.Pr Go.Proofs.YtakaonojfpkhnaaDoor.Hw Go.Proofs.YtakaonojfpkhnaaDoor.E Go.Proofs.YtakaonojfpkhnaaDoor.Pl Go.Proofs.YtakaonojfpkhnaaDoorW.PrintWords Go.Proofs.YtakaonojfpkhnaaDoorW.PrintLast Go.Proofs.YtakaonojfpkhnaaDoorW.PrintMore
set_option linter.unusedVariables false
set_option linter.unusedSimpArgs false

theorem ParamsValidScenarioMatchesReference (p N T : Int) (l : List Int) (d : List S42) (t : List (List Int)) {P1 P2 P3 P4 P5 P6 : Prop} (_ : P1) (_ : P2) (_ : P3) (_ : P4) (_ : P5) (_ : P6) : ∃ k, privitylaw12_ParamsValidScenarioMatchesReference.f k p N T l d t = some true := by
  refine Ev.rounds (r := true) ?_
  unfold privitylaw12_ParamsValidScenarioMatchesReference.f
  have hskip : Ev (fun k => privitylaw12_ParamsValidScenarioMatchesReference.j0 k true p N T l d t) true := by
    refine Ev.step (fun k => ?_) (Ev.now _)
    simp only [privitylaw12_ParamsValidScenarioMatchesReference.j0]
    rw [if_pos trivial]
  refine ev_if awake12 (fun _ => ev_ite (fun _ => hskip) fun h1 => ev_ite (fun _ => hskip) fun h2 => ?_) (fun h => by cases h)
  by_cases h3 : (t.length : Int) > 20
  · rw [decide_eq_true h3]; exact hskip
  · rw [decide_eq_false h3]
    refine Ev.step (f := fun k => privitylaw12_ParamsValidScenarioMatchesReference.l0 k ((0 : Nat) : Int) p N T l d t) (fun k => ?_) ?_
    · simp only [privitylaw12_ParamsValidScenarioMatchesReference.j0]
      rw [if_neg (by simp)]; rfl
    · by_cases hall : ∃ i, i < t.length ∧ ((rd_L6 t (i : Int)).length : Int) > 300
      · obtain ⟨i, hi, hx⟩ := hall
        refine up (Q := fun j => Ev (fun k => privitylaw12_ParamsValidScenarioMatchesReference.l0 k (j : Int) p N T l d t) true) (n := i) ?_ fun j hj h => ?_
        · refine Ev.step (fun k => ?_) (Ev.now _)
          simp only [privitylaw12_ParamsValidScenarioMatchesReference.l0]
          rw [if_pos (by omega), if_pos (by omega), if_pos hx]
        · by_cases hxj : ((rd_L6 t (j : Int)).length : Int) > 300
          · refine Ev.step (fun k => ?_) (Ev.now _)
            simp only [privitylaw12_ParamsValidScenarioMatchesReference.l0]
            rw [if_pos (by omega), if_pos (by omega), if_pos hxj]
          · refine Ev.step (fun k => ?_) h
            simp only [privitylaw12_ParamsValidScenarioMatchesReference.l0]
            rw [if_pos (by omega), if_pos (by omega), if_neg hxj, wnat (by omega)]
      · have hle : ∀ i, i < t.length → ¬ ((rd_L6 t (i : Int)).length : Int) > 300 := fun i hi h => hall ⟨i, hi, h⟩
        have lx : ∀ i, i < t.length → (rd_L6 t (i : Int)).length ≤ 1000000 := fun i hi => by have := hle i hi; omega
        refine up (Q := fun j => Ev (fun k => privitylaw12_ParamsValidScenarioMatchesReference.l0 k (j : Int) p N T l d t) true) (n := t.length) ?_ fun j hj h => ?_
        · refine Ev.step (f := fun k => (params_ValidScenario.f p N T l d t).bind fun t282 => ((privityref12_ValidScenario.f k p N T l d t).bind fun t283 => (some (t282 == t283)))) (fun k => ?_) ?_
          · simp only [privitylaw12_ParamsValidScenarioMatchesReference.l0]
            rw [if_neg (by omega)]
          · refine ev_now_bind (pscn_eq (by omega) (by omega) lx) (Ev.bind (rscn_ev p N T l d t (by omega) (by omega) lx) ?_)
            rw [beq_self_eq_true]
            exact Ev.now _
        · refine Ev.step (fun k => ?_) h
          simp only [privitylaw12_ParamsValidScenarioMatchesReference.l0]
          rw [if_pos (by omega), if_pos (by omega), if_neg (hle j hj), wnat (by omega)]
end Go.Proofs.YtakaonojfpkhnaaDoor.Pure
end
section
/-
  What came in, opened: numbers, bools, rows and structs of them, to any depth.
-/
namespace Go.Proofs.YtakaonojfpkhnaaDoor.Op
open Go.RowKit Go.Proofs.YtakaonojfpkhnaaDoorW.PrintWords
set_option linter.unusedVariables false

/-- What is read of a type's value is a value of d, and Q holds of it. -/
def OpenK {α : Type} (P : Program) (t : TypeId) (d : Kd α) (Q : α → Prop) : Prop :=
  ∀ {H : Type} {enc : TypeId × Value → H} {w : World} {base : Nat} {sp : Nat → Bool} {hd : Bool} {fuel : Nat} {cs : List Value} {x : DataW H × List MemPlace}, DataW.trod enc P w base sp hd fuel t cs = some x → ∃ v : α, d.K w v cs ∧ Q v
theorem openInt {P : Program} {t : TypeId} {k : IntKind} (ht : P.underlying t = some (.int k)) : OpenK P t (Kd.int k) (fun n => (Lit.int k n).wf = true) := by
  intro H enc w base sp hd fuel cs x h
  obtain ⟨n, rfl, _, hw⟩ := DataW.trod_int ht h
  exact ⟨n, rfl, hw⟩
theorem exists_list {α : Type} {R : Nat → α → Prop} : ∀ (n : Nat), (∀ i, i < n → ∃ v, R i v) → ∃ l : List α, l.length = n ∧ ∀ i v, l[i]? = some v → R i v
  | 0, _ => ⟨[], rfl, fun i v h => by simp at h⟩
  | n + 1, h => by
    obtain ⟨l, hl, hr⟩ := exists_list n (fun i hi => h i (by omega))
    obtain ⟨v, hv⟩ := h n (by omega)
    refine ⟨l ++ [v], by simp [hl], fun i u hu => ?_⟩
    by_cases hi : i < n
    · rw [List.getElem?_append_left (by omega)] at hu
      exact hr i u hu
    · rw [List.getElem?_append_right (by omega)] at hu
      by_cases h0 : i - l.length = 0
      · rw [h0] at hu
        simp only [List.getElem?_cons_zero, Option.some.injEq] at hu
        rw [← hu, show i = n from by omega]; exact hv
      · rw [List.getElem?_eq_none (by simp; omega)] at hu; cases hu
theorem openSlice {α : Type} {P : Program} {t e : TypeId} {d : Kd α} {Q : α → Prop} (ht : P.underlying t = some (.slice e)) (hc : P.cellsOf e = d.sz) (he : OpenK P e d Q) : OpenK P t (Kd.slice e d) (fun l => ∀ x ∈ l, Q x) := by
  intro H enc w base sp hd fuel cs x h
  rcases DataW.trod_slice ht h with ⟨rfl, _⟩ | ⟨a, len, cap, elems, rest, n, _, rfl, _, _, hlc, hm, hlen, hel, _, _⟩
  · exact ⟨[], ⟨none, 0, rfl, Nat.le_refl _, rfl, Nat.zero_le _, fun h => absurd h (Nat.lt_irrefl 0)⟩, fun x hx => by cases hx⟩
  · have each : ∀ i, i < len → ∃ v, (∃ c, c.length = d.sz ∧ d.K w v c ∧ ∀ j u, c[j]? = some u → w.cell? (a.add (i * d.sz + j)) = some u) ∧ Q v := by
      intro i hi
      have h1 := hel i hi
      rw [List.getElem?_eq_getElem (by omega), hc] at h1
      obtain ⟨c, hcs, htr⟩ := Option.bind_eq_some_iff.1 h1
      obtain ⟨v, hk, hq⟩ := he htr
      refine ⟨v, ⟨c, d.K_len hk, hk, fun j u hu => ?_⟩, hq⟩
      have h2 := World.cells?_some hcs
      have hj := (List.getElem?_eq_some_iff.1 hu).1
      have h3 := h2.2.2 j (by rw [← d.K_len hk]; exact hj)
      rw [hu] at h3
      rw [← h3, ← Addr.add_add]
    obtain ⟨l, hl, hr⟩ := exists_list len each
    refine ⟨l, ⟨some a, cap, by rw [hl], by omega, rfl, by rw [hl]; simp only [maxLen] at hm; omega, fun _ => ⟨a, rfl, fun j p hj => (hr j p hj).1⟩⟩, fun x hx => ?_⟩
    obtain ⟨i, hi, rfl⟩ := List.getElem_of_mem hx
    exact (hr i _ (List.getElem?_eq_getElem hi)).2
/-- A struct's fields. -/
theorem openFields {P : Program} {H : Type} {enc : TypeId × Value → H} {w : World} {base : Nat} {sp : Nat → Bool} {hd : Bool} {fuel : Nat} {t : TypeId} {cs : List Value} {x : DataW H × List MemPlace} {fs : Array Field} (ht : P.underlying t = some (.struct fs))
    (h : DataW.trod enc P w base sp hd fuel t cs = some x) : cs.length = P.cellsOf t ∧ ∀ (i : Nat) (f : Field), fs[i]? = some f → ∃ n y, DataW.trod enc P w base sp hd n f.type ((cs.drop f.offset).take (P.cellsOf f.type)) = some y := by
  obtain ⟨xs, n, _, _, hl, hlen, hf⟩ := DataW.trod_struct ht h
  refine ⟨hl, fun i f hi => ?_⟩
  have h1 := hf i f hi
  have h2 : i < fs.size := (Array.getElem?_eq_some_iff.1 hi).1
  rw [List.getElem?_eq_getElem (by omega)] at h1
  exact ⟨n, _, h1⟩
end Go.Proofs.YtakaonojfpkhnaaDoor.Op
end
section
/- The row of the law ParamsValidScenarioMatchesReference, out of its plain law and the walk. -/
namespace Go.Proofs.YtakaonojfpkhnaaDoor.paramsValidScenarioMatchesReference
open Go.Proofs.YtakaonojfpkhnaaDoor.Hw Go.ChangeShapes Go.WideShapes Go.ChangeAt Go.RowKit Go.Proofs.YtakaonojfpkhnaaDoor.Pr Go.Proofs.YtakaonojfpkhnaaDoorW.PrintWords
set_option linter.unusedVariables false
theorem own : ownKnob Tryd.prog.godebug = none := by kernel_rfl
theorem laidOut : laidOutB Tryd.prog = true := by kernel_rfl
set_option maxRecDepth 100000 in
theorem open42 : Op.OpenK Tryd.prog 42 k42 (fun x_ => ((Lit.int .i64 x_.f0).wf = true) ∧ ((Lit.int .i64 x_.f1).wf = true) ∧ ((Lit.int .i64 x_.f2).wf = true) ∧ ((Lit.int .i64 x_.f3).wf = true) ∧ ((Lit.int .i64 x_.f4).wf = true) ∧ ((Lit.int .u64 x_.f5).wf = true) ∧ ((Lit.int .i64 x_.f6).wf = true) ∧ ((Lit.int .i64 x_.f7).wf = true)) := by
  intro H enc w base sp hd fuel cs x h
  obtain ⟨hl, hf⟩ := Op.openFields Tryd.underlying42 h
  have hN : Tryd.prog.cellsOf 42 = 8 := by kernel_rfl
  rw [hN] at hl
  obtain ⟨c0_, c1_, c2_, c3_, c4_, c5_, c6_, c7_, rfl⟩ : ∃ c0_ c1_ c2_ c3_ c4_ c5_ c6_ c7_, cs = [c0_, c1_, c2_, c3_, c4_, c5_, c6_, c7_] := by
    match cs, hl with
    | [c0_, c1_, c2_, c3_, c4_, c5_, c6_, c7_], _ => exact ⟨_, _, _, _, _, _, _, _, rfl⟩
  obtain ⟨n0_, y0_, e0_⟩ := hf 0 _ rfl
  have g0_ := (Op.openInt (k := .i64) Tryd.underlying3) e0_
  obtain ⟨v0_, m0_, q0_⟩ := g0_
  obtain ⟨n1_, y1_, e1_⟩ := hf 1 _ rfl
  have g1_ := (Op.openInt (k := .i64) Tryd.underlying3) e1_
  obtain ⟨v1_, m1_, q1_⟩ := g1_
  obtain ⟨n2_, y2_, e2_⟩ := hf 2 _ rfl
  have g2_ := (Op.openInt (k := .i64) Tryd.underlying3) e2_
  obtain ⟨v2_, m2_, q2_⟩ := g2_
  obtain ⟨n3_, y3_, e3_⟩ := hf 3 _ rfl
  have g3_ := (Op.openInt (k := .i64) Tryd.underlying3) e3_
  obtain ⟨v3_, m3_, q3_⟩ := g3_
  obtain ⟨n4_, y4_, e4_⟩ := hf 4 _ rfl
  have g4_ := (Op.openInt (k := .i64) Tryd.underlying3) e4_
  obtain ⟨v4_, m4_, q4_⟩ := g4_
  obtain ⟨n5_, y5_, e5_⟩ := hf 5 _ rfl
  have g5_ := (Op.openInt (k := .u64) Tryd.underlying22) e5_
  obtain ⟨v5_, m5_, q5_⟩ := g5_
  obtain ⟨n6_, y6_, e6_⟩ := hf 6 _ rfl
  have g6_ := (Op.openInt (k := .i64) Tryd.underlying3) e6_
  obtain ⟨v6_, m6_, q6_⟩ := g6_
  obtain ⟨n7_, y7_, e7_⟩ := hf 7 _ rfl
  have g7_ := (Op.openInt (k := .i64) Tryd.underlying3) e7_
  obtain ⟨v7_, m7_, q7_⟩ := g7_
  exact ⟨⟨v0_, v1_, v2_, v3_, v4_, v5_, v6_, v7_⟩, ⟨_, _, rfl, m0_, ⟨_, _, rfl, m1_, ⟨_, _, rfl, m2_, ⟨_, _, rfl, m3_, ⟨_, _, rfl, m4_, ⟨_, _, rfl, m5_, ⟨_, _, rfl, m6_, m7_⟩⟩⟩⟩⟩⟩⟩, ⟨q0_, q1_, q2_, q3_, q4_, q5_, q6_, q7_⟩⟩
set_option maxRecDepth 100000 in
theorem arr6 (cs : Array Value) (h : cs.size = 6) : ∃ c0_ c1_ c2_ c3_ c4_ c5_, cs = #[c0_, c1_, c2_, c3_, c4_, c5_] := by
  obtain ⟨l_⟩ := cs
  match l_, h with
  | [c0_, c1_, c2_, c3_, c4_, c5_], _ => exact ⟨_, _, _, _, _, _, rfl⟩
set_option maxHeartbeats 4000000 in
set_option maxRecDepth 100000 in
theorem lifted (os : Os) (started : os.Started) (H : Type) (enc : TypeId × Value → H) :
    ReturnsInHanded {} Tryd.checked os 4 .any (fun w args => (Rows.paramsValidScenarioMatchesReferenceSpec.pre enc Tryd.prog Tryd.f4 [] false w args ∧ laidMetH Tryd.prog laidx w) ∧ sizedMet enc Tryd.prog Tryd.f4 (OpenSpec.ofChange Rows.paramsValidScenarioMatchesReferenceSpec) false w args) (Rows.paramsValidScenarioMatchesReferenceSpec.post enc Tryd.prog Tryd.f4 false true false false) := by
  refine returnsInHanded_of_change_and (C := Tryd.checked) (X := fun w _ => laidMetH Tryd.prog laidx w) (fun _ _ _ hh h => h.of_heap hh) own started (by kernel_rfl) Tryd.func4
    (ChangeSpec.witness_shaped (enc := enc) (C := Tryd.checked) (os := os) (X := fun w _ => laidMetH Tryd.prog laidx w) false (World.doorLaid Tryd.prog 400 os) #[.agg #[.int .u64 0, .int .i64 0, .int .i64 0, .slice none 0 0, .slice none 0 0, .slice none 0 0]] 8 rfl (World.shaped_of_RefB (by kernel_rfl) (by kernel_rfl)) (by kernel_rfl) (by kernel_rfl) (by kernel_rfl) (door_met os _)) ?_
  intro W base args ds gs before hval0 hW hcnd hsz0 hL0 _
  have hX_ := of_laid hL0
  clear hL0
  have hval : ∀ (j : Nat) t v, Tryd.f4.params[j]? = some t → args[j]? = some v → Value.okWide Tryd.prog W .any base t v := hval0
  have hW' := hW
  obtain ⟨p, q, hA0, hV, rfl, hfz, hnd⟩ := hW
  have hA : DataW.TrodAll enc Tryd.prog W 0 (fun _ => true) true Tryd.f4.params.toList args.toList ds p := hA0
  rw [Tryd.params4] at hA hval
  obtain ⟨v0, vs0, d0, ds0, p0, q0, hargs, rfl, rfl, h0, r0⟩ := trodAll_cons hA
  obtain ⟨rfl, rfl, rfl⟩ := trodAll_nil r0
  obtain rfl : args = #[v0] := by cases args; simp_all
  obtain ⟨rfl, rfl⟩ := trodVars_none hV
  have k0 := h0
  have lt0 : ∀ x ∈ p0, x.block < W.heap.size := by obtain ⟨m, hm⟩ := k0; exact DataW.trod_lt m _ _ _ hm
  obtain ⟨cs0, rfl, hs0⟩ := okWide_struct Tryd.underlying32 (hval 0 32 v0 rfl rfl)
  have hN0 : Tryd.prog.cellsOf 32 = 6 := by kernel_rfl
  rw [hN0] at hs0
  obtain ⟨x0_0, x0_1, x0_2, x0_3, x0_4, x0_5, rfl⟩ := arr6 cs0 hs0
  obtain ⟨fu0, hf0⟩ := h0
  have hg0 : DataW.trod enc Tryd.prog W 0 (fun _ => true) true fu0 32 [x0_0, x0_1, x0_2, x0_3, x0_4, x0_5] = some (d0, p0) := hf0
  have f0 := (Op.openFields Tryd.underlying32 hg0).2
  obtain ⟨n0_0, y0_0, e0_0⟩ := f0 0 _ rfl
  have b0_0 : DataW.trod enc Tryd.prog W 0 (fun _ => true) true n0_0 24 [x0_0, x0_1, x0_2] = some y0_0 := e0_0
  have f0_0 := (Op.openFields Tryd.underlying24 b0_0).2
  obtain ⟨n0_0_0, y0_0_0, e0_0_0⟩ := f0_0 0 _ rfl
  have b0_0_0 : DataW.trod enc Tryd.prog W 0 (fun _ => true) true n0_0_0 22 [x0_0] = some y0_0_0 := e0_0_0
  obtain ⟨a0_0_0, e0_0_0, w0_0_0⟩ := (Op.openInt (k := .u64) Tryd.underlying22) b0_0_0
  cases e0_0_0
  obtain ⟨n0_0_1, y0_0_1, e0_0_1⟩ := f0_0 1 _ rfl
  have b0_0_1 : DataW.trod enc Tryd.prog W 0 (fun _ => true) true n0_0_1 3 [x0_1] = some y0_0_1 := e0_0_1
  obtain ⟨a0_0_1, e0_0_1, w0_0_1⟩ := (Op.openInt (k := .i64) Tryd.underlying3) b0_0_1
  cases e0_0_1
  obtain ⟨n0_0_2, y0_0_2, e0_0_2⟩ := f0_0 2 _ rfl
  have b0_0_2 : DataW.trod enc Tryd.prog W 0 (fun _ => true) true n0_0_2 3 [x0_2] = some y0_0_2 := e0_0_2
  obtain ⟨a0_0_2, e0_0_2, w0_0_2⟩ := (Op.openInt (k := .i64) Tryd.underlying3) b0_0_2
  cases e0_0_2
  obtain ⟨n0_1, y0_1, e0_1⟩ := f0 1 _ rfl
  have b0_1 : DataW.trod enc Tryd.prog W 0 (fun _ => true) true n0_1 25 [x0_3] = some y0_1 := e0_1
  obtain ⟨z0_1, ⟨A0_1, c0_1, e0_1, hc0_1, g0_1⟩, w0_1⟩ := (Op.openSlice (d := (Kd.int .i64)) Tryd.underlying25 (by kernel_rfl) (Op.openInt (k := .i64) Tryd.underlying3)) b0_1
  cases e0_1
  obtain ⟨n0_2, y0_2, e0_2⟩ := f0 2 _ rfl
  have b0_2 : DataW.trod enc Tryd.prog W 0 (fun _ => true) true n0_2 29 [x0_4] = some y0_2 := e0_2
  obtain ⟨z0_2, ⟨A0_2, c0_2, e0_2, hc0_2, g0_2⟩, w0_2⟩ := (Op.openSlice (d := k42) Tryd.underlying29 (by kernel_rfl) open42) b0_2
  cases e0_2
  obtain ⟨n0_3, y0_3, e0_3⟩ := f0 3 _ rfl
  have b0_3 : DataW.trod enc Tryd.prog W 0 (fun _ => true) true n0_3 30 [x0_5] = some y0_3 := e0_3
  obtain ⟨z0_3, ⟨A0_3, c0_3, e0_3, hc0_3, g0_3⟩, w0_3⟩ := (Op.openSlice (d := (Kd.slice 22 (Kd.int .u64))) Tryd.underlying30 (by kernel_rfl) (Op.openSlice (d := (Kd.int .u64)) Tryd.underlying33 (by kernel_rfl) (Op.openInt (k := .u64) Tryd.underlying22))) b0_3
  cases e0_3
  clear hA0 hval0 hsz0
  obtain ⟨kk, hk⟩ := Pure.ParamsValidScenarioMatchesReference a0_0_0 a0_0_1 a0_0_2 z0_1 z0_2 z0_3 w0_0_0 w0_0_1 w0_0_2 w0_1 w0_2 w0_3
  refine (privitylaw12_ParamsValidScenarioMatchesReference.calls kk a0_0_0 a0_0_1 a0_0_2 _ _ z0_1 _ _ z0_2 _ _ z0_3 true W g0_1 hc0_1 g0_2 hc0_2 g0_3 hc0_3 rfl hX_ hk).mono fun e W' ⟨he, bel⟩ => ?_
  subst he
  exact ⟨_, rfl, _, _, _, [], _, [], hW', trodAll_mk1 (shut_bool Tryd.underlying4 _), (trodAll_cons_mk (Below.trod laidOut (by kernel_rfl) (of_decide_eq_true (by kernel_rfl)) k0 bel lt0) trodAll_mk0), rfl, bel.frame _, fun h => by cases h⟩
theorem over : Rows.paramsValidScenarioMatchesReferenceRow.holds Tryd.pinned (OpenSpec.ofChange Rows.paramsValidScenarioMatchesReferenceSpec) :=
  OpenClaim.holds_of_wide 4 Tryd.f4 rfl rfl rfl rfl rfl rfl rfl ⟨rfl, rfl, rfl, rfl, rfl⟩ rfl rfl rfl rfl rfl (by kernel_rfl) Tryd.func4 (by kernel_rfl)
    (of_decide_eq_true (by kernel_rfl)) (by unfold Func.isWrapper; first | (rw [if_pos (by decide +kernel)]; kernel_rfl) | (rw [if_neg (by decide +kernel)]; exact ⟨rfl, rfl⟩))
    (fun os started H enc _ => lifted os started H enc)
theorem proved : Rows.ParamsValidScenarioMatchesReferenceSaid := over
#print axioms proved
end Go.Proofs.YtakaonojfpkhnaaDoor.paramsValidScenarioMatchesReference
namespace Go.Proofs.YtakaonojfpkhnaaDoor
/-- The row, under a short name, for the claim. -/
theorem paramsValidScenarioMatchesReference_holds : Rows.ParamsValidScenarioMatchesReferenceCardSaid :=
  Claim7.holds_tied_plain_at .later [] [.data] true (true, "e89e54b610bb618419dd9e432a54789086f81ccddccae2ed0cfdda57de810b85") false
    paramsValidScenarioMatchesReference.proved (fun _ h => by cases h) (by kernel_rfl) (fun _ h => by cases h) paramsValidScenarioMatchesReference_row_tie rfl ⟨rfl, rfl⟩ (by kernel_rfl) rfl
    (fun f fn hf hfn => by
      obtain rfl : f = 4 := Option.some.inj ((show Tryd.prog.funcNamed "privity/privitylaw12.ParamsValidScenarioMatchesReference" = some 4 by kernel_rfl).symm.trans hf) |>.symm
      obtain rfl : fn = Tryd.f4 := (Option.some.inj (Tryd.func4.symm.trans hfn)).symm
      exact ⟨by kernel_rfl, fun j t ht => by
        rw [Tryd.params4] at ht
        have hm : t ∈ [32] := by simpa using Array.mem_of_getElem? ht
        have hall : ([32].all fun u => !Tryd.prog.wantsStandIn u) = true := by kernel_rfl
        exact (show Tryd.prog.wantsStandIn t = false by simpa using List.all_eq_true.1 hall t hm)⟩)
    (by kernel_rfl)
end Go.Proofs.YtakaonojfpkhnaaDoor
end
