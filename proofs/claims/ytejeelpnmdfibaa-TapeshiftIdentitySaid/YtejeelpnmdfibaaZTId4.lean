/- Part 4 of the proof's texts, joined in build order. -/
import Derived.Test.YtejeelpnmdfibaaZTId3
import Derived.Test.YtejeelpnmdfibaaZTId2
import Derived.Test.YtejeelpnmdfibaaZTId0
import Derived.Laws.CopyOwn
import Derived.Deep.WholeRow
section
/-
  Polynomial of package interpolate, proved by hand: what it computes, in plain lists.
-/
namespace Go.Proofs.Ytejeelpnmdfibaa.Hw
open Go.RowKit Go.Proofs.Ytejeelpnmdfibaa.Pr Go.Proofs.YtejeelpnmdfibaaW.PrintWords Go.Proofs.YtejeelpnmdfibaaW.PrintLast Go.Proofs.YtejeelpnmdfibaaW.PrintMore Go.Proofs.Ytejeelpnmdfibaa.E
set_option linter.unusedVariables false
set_option linter.unusedSimpArgs false

def addP (p : Int) (a b : List Int) : List Int := putsL p (putsL p [] a a.length) b b.length
def xsOf (pts : List S97) : List Int := pts.map fun x => x.f0
def polS (p : Int) (pts : List S97) (i : Nat) : List Int × Int := (othersN (xsOf pts) i pts.length).foldl (polStep p (rd_T97 pts i).f0) ([1], 1)
def polTerm (p : Int) (pts : List S97) (i : Nat) : List Int := trimL ((polS p pts i).1.map fun v => ((rd_T97 pts i).f1 * invp p (polS p pts i).2 % p) * v % p)
def polSum (p : Int) (pts : List S97) : Nat → List Int
  | 0 => []
  | n + 1 => trimL (addP p (polSum p pts n) (polTerm p pts n))
def polL (p : Int) (pts : List S97) : List Int := trimL (polSum p pts pts.length)
theorem rdT_nat (pts : List S97) (i : Nat) (h : i < pts.length) : rd_T97 pts (i : Int) = pts[i] := by
  unfold rd_T97; rw [Int.toNat_natCast, List.getD_eq_getElem?_getD, List.getElem?_eq_getElem h]; rfl
theorem xsOf_rd (pts : List S97) (i : Nat) (h : i < pts.length) : rd (xsOf pts) (i : Int) = (rd_T97 pts (i : Int)).f0 := by
  rw [rdT_nat _ _ h, rd_nat, getD_in _ _ (by simpa [xsOf] using h)]; simp [xsOf]
/-- The points are residues. -/
def PtsOk (p : Int) (pts : List S97) : Prop := ∀ x ∈ pts, Res p x.f0 ∧ Res p x.f1
theorem PtsOk.xs {p : Int} {pts : List S97} (h : PtsOk p pts) : ∀ x ∈ xsOf pts, Res p x := by
  intro x hx
  obtain ⟨y, hy, rfl⟩ := List.mem_map.1 hx
  exact (h y hy).1
theorem PtsOk.at_ {p : Int} {pts : List S97} (h : PtsOk p pts) (i : Nat) (hi : i < pts.length) : Res p (rd_T97 pts (i : Int)).f0 ∧ Res p (rd_T97 pts (i : Int)).f1 := by
  rw [rdT_nat _ _ hi]; exact h _ (List.getElem_mem _)
theorem linear_length (p : Int) (f : List Int) (o : Int) : (mulsL p f [o, 1] f.length).length ≤ f.length + 2 := mulsL_length p f [o, 1] f.length
theorem polFold {p : Int} (hp : Supp p) {X : Int} (hX : Res p X) : ∀ (l : List Int) (s : List Int × Int), (∀ o ∈ l, Res p o) → (∀ x ∈ s.1, Res p x) → Res p s.2 →
    (∀ x ∈ (l.foldl (polStep p X) s).1, Res p x) ∧ Res p (l.foldl (polStep p X) s).2 ∧ (l.foldl (polStep p X) s).1.length ≤ s.1.length + 2 * l.length ∧ ((∀ o ∈ l, X ≠ o) → s.2 ≠ 0 → (l.foldl (polStep p X) s).2 ≠ 0)
  | [], s, _, h1, h2 => ⟨h1, h2, by simp, fun _ h => h⟩
  | o :: l, s, hl, h1, h2 => by
    have ih := polFold hp hX l (polStep p X s o) (fun y hy => hl y (List.mem_cons_of_mem _ hy)) (fun x hx => mulsL_res hp _ _ _ x (trimL_mem hx)) (Res.mod hp _)
    have hlen : (polStep p X s o).1.length ≤ s.1.length + 2 := Nat.le_trans (trimL_length _) (linear_length p s.1 _)
    refine ⟨ih.1, ih.2.1, ?_, fun hne h0 => ih.2.2.2 (fun y hy => hne y (List.mem_cons_of_mem _ hy)) ?_⟩
    · have := ih.2.2.1; simp only [List.foldl_cons, List.length_cons] at *; omega
    · exact mul_ne' hp h2 h0 (Res.mod hp _) (sub_ne' hp hX (hl o (by simp)) (hne o (by simp)))
theorem xsOf_next (pts : List S97) (n : Nat) (h : n < pts.length) : xsOf (pts.take n) ++ [(rd_T97 pts (n : Int)).f0] = xsOf (pts.take (n + 1)) := by
  rw [rdT_nat _ _ h, List.take_succ_eq_append_getElem h]; simp only [xsOf, List.map_append, List.map_cons, List.map_nil]
theorem xsOf_take_length (pts : List S97) (n : Nat) (h : n ≤ pts.length) : (xsOf (pts.take n)).length = n := by simp [xsOf]; omega
theorem othersN_length (xs : List Int) (b : Nat) : ∀ n, (othersN xs b n).length ≤ n
  | 0 => Nat.le_refl _
  | n + 1 => by
    have := othersN_length xs b n
    unfold othersN
    split
    · omega
    · rw [List.length_append]; simp only [List.length_cons, List.length_nil]; omega
theorem one_res {p : Int} (hp : Supp p) : ∀ x ∈ [(1 : Int)], Res p x := by
  have := hp.bd
  intro x hx
  simp only [List.mem_cons, List.not_mem_nil, or_false] at hx
  subst hx
  exact ⟨by omega, by omega⟩
theorem alloc_szA (w : World) (o : Obj) : (w.alloc o).heap.size = w.heap.size + 1 := Array.size_push _
theorem pol_inner {p : Int} (hp : Supp p) (A : Option Addr) (c : Nat) (xs : List Int) (X Y : Int) (hX : Res p X) (hx : ∀ x ∈ xs, Res p x) (hl : xs.length ≤ 1000) (bp n : Nat) (hn : n < xs.length) (wr : World) (hr : Kd.C (Kd.int .u64) wr A xs.length xs)
    (hbp : Box wr bp p) :
    Calls Try.prog 110 #[.slice A xs.length c, .int .i64 (n : Int), .func (.func 111) #[] #[.pointer (some ⟨bp, 0, none⟩), .pointer (some ⟨wr.heap.size + 1 + 1, 0, none⟩), .pointer (some ⟨wr.heap.size + 1 + 1 + 1, 0, none⟩), .pointer (some ⟨wr.heap.size, 0, none⟩)]]
      ((((wr.alloc (Obj.cells #[Value.int IntKind.u64 X, Value.int IntKind.u64 Y] 97)).alloc (Obj.cells #[Value.int IntKind.u64 1] 22)).alloc (Obj.cells #[Value.slice (some ⟨wr.heap.size + 1, 0, none⟩) 1 1] 26)).alloc (Obj.cells #[Value.int IntKind.u64 1] 22))
      fun e w' => e = .returned (.tuple #[]) ∧ Aside0 (PolI wr bp (wr.heap.size + 1 + 1) (wr.heap.size + 1 + 1 + 1) wr.heap.size p X Y ((othersN xs n xs.length).foldl (polStep p X) ([1], 1)) w') := by
  have hpb := hp.bd
  have lp := blk_lt hbp
  refine others_pol (PolI wr bp (wr.heap.size + 1 + 1) (wr.heap.size + 1 + 1 + 1) wr.heap.size p X Y) (polStep p X) bp (wr.heap.size + 1 + 1) (wr.heap.size + 1 + 1 + 1) wr.heap.size A c xs n (by omega) (by omega) (fun s w' h => Kd.C_below hr h.below) ([1], 1) ?_ _ ?_
  · intro w' i hi hne h
    have hf := polFold hp hX (othersN xs n i) ([1], 1) (fun o ho => by obtain ⟨j, h1, _, rfl⟩ := othersN_mem ho; exact rd_res' hx j (by omega)) (one_res hp) ⟨by omega, by omega⟩
    have ho := othersN_length xs n i
    have hf3 := hf.2.2.1
    simp only [List.length_cons, List.length_nil] at hf3
    exact polc_calls hp hX (rd_res' hx i hi) bp (wr.heap.size + 1 + 1) (wr.heap.size + 1 + 1 + 1) wr.heap.size wr w' _ h (by omega) (by omega) (by omega) (by omega) (by omega) (by omega) (by omega) (by omega)
  · refine ⟨?_, ⟨some ⟨wr.heap.size + 1, 0, none⟩, 1, ?_, ?_⟩, ?_, ?_, one_res hp, ⟨by omega, by omega⟩, below_alloc (below_alloc (below_alloc (below_alloc (Below.refl _ _) _) _) _) _⟩
    · exact blk_alloc (blk_alloc (blk_alloc (blk_alloc hbp _) _) _) _
    · have h := blk_new ((wr.alloc (Obj.cells #[Value.int IntKind.u64 X, Value.int IntKind.u64 Y] 97)).alloc (Obj.cells #[Value.int IntKind.u64 1] 22)) (Obj.cells #[Value.slice (some ⟨wr.heap.size + 1, 0, none⟩) 1 1] 26)
      rw [alloc_szA, alloc_szA] at h
      exact blk_alloc h _
    · have h := R_made (ok := fun k => k ≠ wr.heap.size + 1 + 1 + 1) (own_lit (wr.alloc (Obj.cells #[Value.int IntKind.u64 X, Value.int IntKind.u64 Y] 97)) wr.heap.size 22 .u64 [1] (by rw [alloc_szA]; omega) (by simp)) (by intro b hb; rw [alloc_szA] at hb; have he : wr.heap.size + 1 = b := Option.some.inj hb; exact fun e2 => by omega)
      rw [alloc_szA] at h
      exact Kd.R_alloc (Kd.R_alloc h _) _
    · have h := blk_new (((wr.alloc (Obj.cells #[Value.int IntKind.u64 X, Value.int IntKind.u64 Y] 97)).alloc (Obj.cells #[Value.int IntKind.u64 1] 22)).alloc (Obj.cells #[Value.slice (some ⟨wr.heap.size + 1, 0, none⟩) 1 1] 26)) (Obj.cells #[Value.int IntKind.u64 1] 22)
      rw [alloc_szA, alloc_szA, alloc_szA] at h
      exact h
    · exact blk_alloc (blk_alloc (blk_alloc (blk_new wr _) _) _) _
theorem addP_length (p : Int) (a b : List Int) : (addP p a b).length = max a.length b.length := by
  unfold addP; rw [putsL_length, putsL_length]; simp
theorem addP_res {p : Int} (hp : Supp p) (a b : List Int) : ∀ x ∈ addP p a b, Res p x :=
  putsL_res hp (putsL_res hp (by intro x hx; cases hx) _) _
theorem polTerm_length {p : Int} (hp : Supp p) {pts : List S97} (hx : PtsOk p pts) {n : Nat} (hn : n < pts.length) : (polTerm p pts n).length ≤ 1 + 2 * pts.length := by
  have hpb := hp.bd
  have hxl : (xsOf pts).length = pts.length := by simp [xsOf]
  have h := polFold hp (hx.at_ n hn).1 (othersN (xsOf pts) n pts.length) ([1], 1) (fun o ho => by obtain ⟨j, h1, _, rfl⟩ := othersN_mem ho; exact rd_res' hx.xs j (by omega)) (one_res hp) ⟨by omega, by omega⟩
  have hl := othersN_length (xsOf pts) n pts.length
  have h3 := h.2.2.1
  simp only [List.length_cons, List.length_nil] at h3
  refine Nat.le_trans (trimL_length _) ?_
  rw [List.length_map]
  unfold polS
  omega
theorem polS_ok {p : Int} (hp : Supp p) {pts : List S97} (hx : PtsOk p pts) {n : Nat} (hn : n < pts.length) (hnd : (xsOf pts).Nodup) :
    (∀ x ∈ (polS p pts n).1, Res p x) ∧ Res p (polS p pts n).2 ∧ (polS p pts n).1.length ≤ 1 + 2 * pts.length ∧ (polS p pts n).2 ≠ 0 := by
  have hpb := hp.bd
  have hxl : (xsOf pts).length = pts.length := by simp [xsOf]
  have h := polFold hp (hx.at_ n hn).1 (othersN (xsOf pts) n pts.length) ([1], 1) (fun o ho => by obtain ⟨j, h1, _, rfl⟩ := othersN_mem ho; exact rd_res' hx.xs j (by omega)) (one_res hp) ⟨by omega, by omega⟩
  have hl := othersN_length (xsOf pts) n pts.length
  refine ⟨h.1, h.2.1, ?_, h.2.2.2 (fun o ho => ?_) (by decide)⟩
  · have := h.2.2.1; simp only [List.length_cons, List.length_nil] at this; unfold polS; omega
  · obtain ⟨j, h1, h2, rfl⟩ := othersN_mem ho
    rw [← xsOf_rd pts n hn, rd_nat, rd_nat, getD_in _ _ (by omega), getD_in _ _ (by omega)]
    intro e
    rw [List.nodup_iff_pairwise_ne, List.pairwise_iff_getElem] at hnd
    rcases Nat.lt_trichotomy n j with h3 | h3 | h3
    · exact hnd n j (by omega) (by omega) h3 e
    · exact h2 h3.symm
    · exact hnd j n (by omega) (by omega) h3 e.symm
theorem polSum_ok {p : Int} (hp : Supp p) {pts : List S97} (hx : PtsOk p pts) : ∀ (n : Nat), n ≤ pts.length → (∀ x ∈ polSum p pts n, Res p x) ∧ (polSum p pts n).length ≤ 1 + 2 * pts.length
  | 0, _ => ⟨fun x hx => (by cases hx), by simp [polSum]⟩
  | n + 1, h => by
    have ih := polSum_ok hp hx n (by omega)
    refine ⟨fun x hx => addP_res hp _ _ x (trimL_mem hx), ?_⟩
    refine Nat.le_trans (trimL_length _) ?_
    rw [addP_length]
    have := polTerm_length hp hx (n := n) (by omega)
    omega
theorem alloc_size2 (w : World) (o : Obj) : (w.alloc o).heap.size = w.heap.size + 1 := Array.size_push _
set_option maxHeartbeats 2000000 in
set_option maxRecDepth 100000 in
theorem pol_walk {p : Int} (hp : Supp p) (A : Option Addr) (c : Nat) (pts : List S97) (hx : PtsOk p pts) (hl : pts.length ≤ 12) (w : World) (hr : Kd.C k97 w A pts.length pts) (hc : pts.length ≤ c) :
    Calls Try.prog 99 #[.int .u64 p, .slice A pts.length c] w fun e w' => ∃ v0_ : Value, e = .returned (.tuple #[v0_, .int .i64 (if (xsOf pts).Nodup then 0 else 1)]) ∧ Kd.R (Kd.int .u64) 22 w' w.heap.size (fun _ => True) v0_ (if (xsOf pts).Nodup then polL p pts else []) ∧ Below w.heap.size w w' := by
  obtain ⟨xs, hxs⟩ : ∃ y, y = xsOf pts := ⟨_, rfl⟩
  have hxl : xs.length = pts.length := by rw [hxs]; simp [xsOf]
  rw [← hxs]
  obtain ⟨r1, hr1⟩ : ∃ y, y = (if xs.Nodup then polL p pts else []) := ⟨_, rfl⟩
  obtain ⟨r2, hr2⟩ : ∃ y : Int, y = (if xs.Nodup then 0 else 1) := ⟨_, rfl⟩
  rw [← hr1, ← hr2]
  have HR1 := Aside0.mk hr1
  have HR2 := Aside0.mk hr2
  clear hr1 hr2
  have HXS := Aside0.mk hxs
  have HXL := Aside0.mk hxl
  clear hxs hxl
  have HR := Aside0.mk hr
  have HX := Aside0.mk hx
  have hb1 : Below w.heap.size w (w.alloc (Obj.cells #[Value.int IntKind.u64 p] 22)) := below_alloc (Below.refl _ _) _
  have hbp0 : Box (w.alloc (Obj.cells #[Value.int IntKind.u64 p] 22)) w.heap.size p := blk_new w _
  have HB1 := Aside0.mk hb1
  have HBP := Aside0.mk hbp0
  clear hr hx hb1 hbp0
  go_enter Try.func99, Try.ntmps99
  go_wp2
  go_loopg [6, 16] pts.length (fun kq v6 v16 w' => ∃ (n : Nat), v16 = .int .i64 (n : Int) ∧ Aside0 (kq + n = pts.length) ∧ Aside0 (Kd.R (Kd.int .u64) 22 w' w.heap.size (fun k_ => w.heap.size + 1 ≤ k_) v6 (xsOf (pts.take n))) ∧ Aside0 (Box w' w.heap.size p) ∧ Aside0 (Below w.heap.size w w'))
  case atStart => exact ⟨0, rfl, ⟨rfl⟩, ⟨Kd.R_nil _ _ _ _ _⟩, HBP, HB1⟩
  case round =>
    clear HBP HB1
    obtain ⟨n, rfl, HK, HO, HBx, HB⟩ := hrel
    by_cases hlt : n < pts.length
    · have p1 : ((0 : Int) ≤ (n : Int)) = True := eq_true (by omega)
      have q1 : ((n : Int) < (pts.length : Int)) = True := eq_true (by omega)
      obtain ⟨ad, e1, hx0, hx1⟩ := at_T97 HR.out (n : Int) (by omega) (by omega)
      cases e1
      replace hx0 := pw_cell_below HB.out hx0
      replace hx1 := pw_cell_below HB.out hx1
      rw [Int.toNat_natCast] at hx0 hx1
      have hlen : (xsOf (pts.take n)).length = n := xsOf_take_length pts n (by omega)
      have hnext := xsOf_next pts n hlt
      obtain ⟨X, hX⟩ : ∃ y, y = (rd_T97 pts (n : Int)).f0 := ⟨_, rfl⟩
      obtain ⟨Y, hY⟩ : ∃ y, y = (rd_T97 pts (n : Int)).f1 := ⟨_, rfl⟩
      rw [← hX] at hx0
      rw [← hY] at hx1
      rw [← hX] at hnext
      have HN := Aside0.mk hnext
      have HL := Aside0.mk hlen
      have hsz := Aside0.mk (show w.heap.size + 1 ≤ wr.heap.size from blk_lt HBx.out)
      have hne : ∀ b, b < w.heap.size + 1 → some b ≠ u6.ownBlock := fun b hb e => by have := HO.out.1 b e.symm; omega
      have HNE := Aside0.mk hne
      clear hnext hlen hX hY hne
      go_wp2_with (first | ((with_reducible refine gate_builtin (b := .append) (xs := #[.tmp 20, .tmp 23]) rfl ?_); at_builtin; refine Kd.R_append (Kd.int .u64) (w0 := w) w.heap.size rfl (.tmp 20) (.tmp 23) 26 22 (.int .u64 0) 8 rfl Try.underlying26 info22 rfl (by decide) (by omega) u6 (xsOf (pts.take n)) X [.int .u64 X] (fun k_ => w.heap.size + 1 ≤ k_) (fun _ => False) rfl (by rw [alloc_size2]; rfl) rfl (fun _ hk => hk.elim) (fun k hk => Nat.le_trans hsz.out (Nat.le_trans (by rw [alloc_size2]; omega) hk)) (Kd.R_alloc HO.out _) (below_alloc HB.out _) (below_size (below_alloc HB.out _)) (by rw [HL.out]; omega) ?_; intro v6 w6 ho6 hb6 hg6 ha6; rw [HN.out] at ho6; have HO6 := Aside0.mk ho6; have HB6 := Aside0.mk hb6; have HG6 := Aside0.mk hg6; clear ho6 hb6 hg6 ha6))
      go_roundg (pts.length - (n + 1))
      case measure => have := HK.out; omega
      case rel => exact ⟨n + 1, by go_num, ⟨by omega⟩, HO6, ⟨blk_grown (blk_alloc HBx.out _) HG6.out (HNE.out _ (by omega))⟩, HB6⟩
    · have hd : decide ((n : Int) < (pts.length : Int)) = false := decide_eq_false (by omega)
      have hn : n = pts.length := by have := HK.out; omega
      subst hn
      rw [List.take_length] at HO
      rw [← HXS.out] at HO
      obtain ⟨Ax, cx, rfl, hcx, hCx⟩ := Kd.R_reads HO.out
      have HU := Aside0.mk (unlike_calls Ax cx xs wr hCx hcx (by rw [HXL.out]; exact hl))
      clear hCx hlt hd HK
      by_cases hnd : xs.Nodup
      · have hd : decide xs.Nodup = true := decide_eq_true hnd
        have hr1 := HR1.out
        have hr2 := HR2.out
        rw [if_pos hnd] at hr1 hr2
        subst hr2
        have HRR := Aside0.mk hr1
        have HND := Aside0.mk hnd
        clear hnd hr1 HR1 HR2
        go_wp2_with (first | (go_at_call 109; (with_reducible refine HU.out.mono ?_); rintro e w1 ⟨rfl, hb3⟩; have HB3 := Aside0.mk (below_step HB.out hb3); have HBx3 := Aside0.mk (show Box w1 w.heap.size p from blk_below HBx.out hb3); have HO3 := Aside0.mk (Kd.R_below HO.out hb3); clear hb3))
        obtain ⟨A3, c3, e3, hc3, hC3⟩ := Kd.R_reads HO3.out
        cases e3
        have HCX := Aside0.mk hC3
        clear hC3 hc3 hd HB HBx HO HU
        go_loopg [9, 31] pts.length (fun kq v9 v31 w' => ∃ (n : Nat), v31 = .int .i64 (n : Int) ∧ Aside0 (kq + n = pts.length) ∧ Aside0 (Kd.R (Kd.int .u64) 22 w' w1.heap.size (fun k_ => True) v9 (polSum p pts n)) ∧ Aside0 (Below w1.heap.size w1 w'))
        case atStart => exact ⟨0, rfl, ⟨rfl⟩, ⟨Kd.R_nil _ _ _ _ _⟩, ⟨Below.refl _ _⟩⟩
        case round =>
          obtain ⟨n, rfl, HK, HS, HB⟩ := hrel
          by_cases hlt : n < pts.length
          · have p1 : ((0 : Int) ≤ (n : Int)) = True := eq_true (by omega)
            have q1 : ((n : Int) < (pts.length : Int)) = True := eq_true (by omega)
            obtain ⟨ad, e1, hx0, hx1⟩ := at_T97 HR.out (n : Int) (by omega) (by omega)
            cases e1
            replace hx0 := pw_cell_below (below_step HB3.out HB.out) hx0
            replace hx1 := pw_cell_below (below_step HB3.out HB.out) hx1
            rw [Int.toNat_natCast] at hx0 hx1
            obtain ⟨hX, hY⟩ := HX.out.at_ n hlt
            have hi := pol_inner hp Ax cx xs (rd_T97 pts (n : Int)).f0 (rd_T97 pts (n : Int)).f1 hX (by rw [HXS.out]; exact HX.out.xs) (by rw [HXL.out]; omega) w.heap.size n (by rw [HXL.out]; exact hlt) wr (Kd.C_below HCX.out HB.out) (blk_below HBx3.out HB.out)
            have hS : (othersN xs n xs.length).foldl (polStep p (rd_T97 pts (n : Int)).f0) ([1], 1) = polS p pts n := by rw [HXL.out, HXS.out]; rfl
            rw [hS] at hi
            obtain ⟨X, hXX⟩ : ∃ y, y = (rd_T97 pts (n : Int)).f0 := ⟨_, rfl⟩
            obtain ⟨Y, hYY⟩ : ∃ y, y = (rd_T97 pts (n : Int)).f1 := ⟨_, rfl⟩
            obtain ⟨F, hF⟩ : ∃ y, y = (polS p pts n).1 := ⟨_, rfl⟩
            obtain ⟨D, hD⟩ : ∃ y, y = (polS p pts n).2 := ⟨_, rfl⟩
            have hfd : polS p pts n = (F, D) := by rw [hF, hD]
            rw [← hXX] at hx0 hX
            rw [← hYY] at hx1 hY
            rw [hfd, ← hXX, ← hYY] at hi
            obtain ⟨hr1, hr2, hlen, hD0⟩ := polS_ok hp HX.out hlt (by rw [← HXS.out]; exact HND.out)
            rw [← hF] at hr1 hlen
            rw [← hD] at hr2 hD0
            obtain ⟨ko, hko⟩ := (over_ev hp hY hr2 hD0).rounds
            obtain ⟨ks, hks⟩ := (scale_ev hp (Res.mod hp (Y * invp p D)) F hr1 (by omega)).rounds
            have hterm : trimL (F.map fun v => (Y * invp p D % p) * v % p) = polTerm p pts n := by unfold polTerm; rw [← hF, ← hD, ← hYY]
            rw [hterm] at hks
            have hsum := polSum_ok hp HX.out n (by omega)
            have htl : (polTerm p pts n).length ≤ 1000 := by rw [← hterm]; refine Nat.le_trans (trimL_length _) ?_; rw [List.length_map]; omega
            have htr : ∀ x ∈ polTerm p pts n, Res p x := by rw [← hterm]; intro x hx; obtain ⟨y, _, rfl⟩ := List.mem_map.1 (trimL_mem hx); exact Res.mod hp _
            obtain ⟨ka, hka⟩ := (trim_ev (addP p (polSum p pts n) (polTerm p pts n)) (by have := addP_length p (polSum p pts n) (polTerm p pts n); omega)).rounds
            have HIn := Aside0.mk hi
            have HKO := Aside0.mk hko
            have HKS := Aside0.mk hks
            have HKA := Aside0.mk hka
            have HT := Aside0.mk (And.intro htr htl)
            have HSM := Aside0.mk hsum
            have HF := Aside0.mk hF
            have HD := Aside0.mk hD
            clear hi hko hks hka htr htl hsum hF hD hfd hterm hr1 hr2 hlen hD0 hXX hYY hS hX hY
            go_wp2_with (first
              | (go_at_call 110; (with_reducible refine HIn.out.mono ?_); rintro e w4 ⟨rfl, HI⟩))
            obtain ⟨A9, c9, e9, hc9, hC9⟩ := Kd.R_reads HS.out
            cases e9
            have HC9 := Aside0.mk (Kd.C_below hC9 HI.out.below)
            obtain ⟨Af, cf, hf, hO⟩ := HI.out.hf
            simp only at hf hO
            obtain ⟨Af', cf', ef, hcf, hCf⟩ := Kd.R_reads hO
            cases ef
            have hscale : ∀ m : Nat, Calls Try.prog 81 #[.int .u64 p, .int .u64 (Y * invp p D % p), .slice Af F.length cf] (w4.drew.drewN m) fun e w' => ∃ v0_ : Value, e = .returned v0_ ∧ Kd.R (Kd.int .u64) 22 w' w4.heap.size (fun _ => True) v0_ (polTerm p pts n) ∧ Below w4.heap.size (w4.drew.drewN m) w' :=
              fun m => poly_Scale.calls ks p (Y * invp p D % p) Af cf F (polTerm p pts n) (w4.drew.drewN m) (Kd.C_drewN (show Kd.C (Kd.int .u64) w4.drew Af F.length F from Kd.C_drewN hCf 1) m) hcf HKS.out
            have HSc := Aside0.mk hscale
            have c1 := HI.out.hp.cell
            have c2 := blk_cell HI.out.hx 1
            simp only [List.getElem?_toArray, List.getElem?_cons_zero, List.getElem?_cons_succ] at c2
            have c3 := HI.out.hd.cell
            have c4 := blk_cell hf 0
            simp only [List.getElem?_toArray, List.getElem?_cons_zero] at c4
            clear hf hO hCf hscale hC9
            refine start_ (n := 12) (S := (fun w' => w'.cell? ⟨w.heap.size, 0, none⟩ = some (.int .u64 p) ∧ w'.cell? ⟨wr.heap.size, 1, none⟩ = some (.int .u64 Y) ∧ w'.cell? ⟨wr.heap.size + 1 + 1 + 1, 0, none⟩ = some (.int .u64 D) ∧ w'.cell? ⟨wr.heap.size + 1 + 1, 0, none⟩ = some (.slice Af F.length cf))) (ds := []) #[false, false, false, false, false, false, false, false, false, false, false, false] (by kernel_rfl) rfl rfl ⟨c1, c2, c3, c4⟩ (fun hHeld => ?_)
            refine take_ (i := 0) (N := some 41) (v := ?_) (a' := ?_) #[true, false, false, false, false, false, false, false, false, false, false, false] rfl rfl (by kernel_rfl) (fun _ _ _ h => h) (Or.inl ⟨by rfl, ?_⟩) hHeld ?_ ?_
            rotate_left
            · rintro w' ⟨s0, s1, s2, s3⟩
              go_simp
              with_reducible rfl
            rotate_left
            · simp only [Act.put, List.setIfInBounds_toArray, List.set_cons_zero, List.set_cons_succ, i64_w, i32_w]
              rfl
            refine pure_ (i := 1) (N := some 42) (v := ?_) (a' := ?_) #[true, true, false, false, false, false, false, false, false, false, false, false] rfl rfl (by kernel_rfl) (fun _ _ _ h => h) (Or.inl ⟨by rfl, ?_⟩) ?_ ?_
            rotate_left
            · intro w'
              go_simp
              with_reducible rfl
            rotate_left
            · simp only [Act.put, List.setIfInBounds_toArray, List.set_cons_zero, List.set_cons_succ, i64_w, i32_w]
              rfl
            refine take_ (i := 2) (N := some 43) (v := ?_) (a' := ?_) #[true, true, true, false, false, false, false, false, false, false, false, false] rfl rfl (by kernel_rfl) (fun _ _ _ h => h) (Or.inl ⟨by rfl, ?_⟩) hHeld ?_ ?_
            rotate_left
            · rintro w' ⟨s0, s1, s2, s3⟩
              go_simp
              with_reducible rfl
            rotate_left
            · simp only [Act.put, List.setIfInBounds_toArray, List.set_cons_zero, List.set_cons_succ, i64_w, i32_w]
              rfl
            refine take_ (i := 3) (N := some 44) (v := ?_) (a' := ?_) #[true, true, true, true, false, false, false, false, false, false, false, false] rfl rfl (by kernel_rfl) (fun _ _ _ h => h) (Or.inl ⟨by rfl, ?_⟩) hHeld ?_ ?_
            rotate_left
            · rintro w' ⟨s0, s1, s2, s3⟩
              go_simp
              with_reducible rfl
            rotate_left
            · simp only [Act.put, List.setIfInBounds_toArray, List.set_cons_zero, List.set_cons_succ, i64_w, i32_w]
              rfl
            refine pure_ (i := 4) (N := some 45) (v := ?_) (a' := ?_) #[true, true, true, true, true, false, false, false, false, false, false, false] rfl rfl (by kernel_rfl) (fun _ _ _ h => h) (Or.inl ⟨by rfl, ?_⟩) ?_ ?_
            rotate_left
            · intro w'
              go_simp
              with_reducible rfl
            rotate_left
            · simp only [Act.put, List.setIfInBounds_toArray, List.set_cons_zero, List.set_cons_succ, i64_w, i32_w]
              rfl
            refine take_ (i := 5) (N := some 46) (v := ?_) (a' := ?_) #[true, true, true, true, true, true, false, false, false, false, false, false] rfl rfl (by kernel_rfl) (fun _ _ _ h => h) (Or.inl ⟨by rfl, ?_⟩) hHeld ?_ ?_
            rotate_left
            · rintro w' ⟨s0, s1, s2, s3⟩
              go_simp
              with_reducible rfl
            rotate_left
            · simp only [Act.put, List.setIfInBounds_toArray, List.set_cons_zero, List.set_cons_succ, i64_w, i32_w]
              rfl
            refine take_ (i := 6) (N := some 47) (v := ?_) (a' := ?_) #[true, true, true, true, true, true, true, false, false, false, false, false] rfl rfl (by kernel_rfl) (fun _ _ _ h => h) (Or.inl ⟨by rfl, ?_⟩) hHeld ?_ ?_
            rotate_left
            · rintro w' ⟨s0, s1, s2, s3⟩
              go_simp
              with_reducible rfl
            rotate_left
            · simp only [Act.put, List.setIfInBounds_toArray, List.set_cons_zero, List.set_cons_succ, i64_w, i32_w]
              rfl
            refine take_ (i := 8) (N := some 49) (v := ?_) (a' := ?_) #[true, true, true, true, true, true, true, false, true, false, false, false] rfl rfl (by kernel_rfl) (fun _ _ _ h => h) (Or.inl ⟨by rfl, ?_⟩) hHeld ?_ ?_
            rotate_left
            · rintro w' ⟨s0, s1, s2, s3⟩
              go_simp
              with_reducible rfl
            rotate_left
            · simp only [Act.put, List.setIfInBounds_toArray, List.set_cons_zero, List.set_cons_succ, i64_w, i32_w]
              rfl
            refine one_ (i := 7) (N := some 48) #[true, true, true, true, true, true, true, true, true, false, false, false] rfl rfl (by kernel_rfl) (by decide) (fun K hK => ?_)
            refine goes_ Try.func112 (by kernel_rfl) rfl #[.int .u64 p, .int .u64 Y, .int .u64 D] (by rfl) rfl rfl (by (try simp only [List.map_toArray, List.map_cons, List.map_nil]); first | done | rfl) ?_
            refine (interpolate_over.calls ko p Y D (Y * invp p D % p) _ HKO.out).mono ?_
            rintro e w' ⟨rfl, ⟨nd, rfl⟩⟩
            refine ⟨_, rfl, ?_⟩
            refine hK.out _ _ ⟨c1, c2, c3, c4⟩ (fun hHeld => ?_)
            clear hK K
            refine norm_ (a' := ?_) ?_ ?_
            rotate_left
            · show Act.put _ (some 48) _ = _
              simp only [Act.put, List.setIfInBounds_toArray, List.set_cons_zero, List.set_cons_succ, i64_w, i32_w]
              rfl
            refine one_ (i := 9) (N := some 50) #[true, true, true, true, true, true, true, true, true, true, false, false] rfl rfl (by kernel_rfl) (by decide) (fun K hK => ?_)
            refine goes_ Try.func81 (by kernel_rfl) rfl #[.int .u64 p, .int .u64 (Y * invp p D % p), .slice Af F.length cf] (by rfl) rfl rfl (by (try simp only [List.map_toArray, List.map_cons, List.map_nil]); first | done | rfl) ?_
            refine (HSc.out nd).mono ?_
            rintro e w5 ⟨v0, rfl, hv0, hb0⟩
            have hsz5 := Aside0.mk (show w4.heap.size ≤ w5.heap.size from hb0.size)
            have hb5 := Aside0.mk (show Below w4.heap.size w4 w5 from below_then (pw_below_drewN (pw_below_drewN (Below.refl w4.heap.size w4) 1) nd) (Nat.le_refl _) hb0)
            obtain ⟨A5, q5, e5, hq5, hC5⟩ := Kd.R_reads hv0
            cases e5
            have HC5 := Aside0.mk hC5
            have HC95 := Aside0.mk (Kd.C_below HC9.out hb5.out)
            have d1 : w5.cell? ⟨w.heap.size, 0, none⟩ = some (.int .u64 p) := pw_cell_below hb5.out c1
            have d2 : w5.cell? ⟨wr.heap.size, 1, none⟩ = some (.int .u64 Y) := pw_cell_below hb5.out c2
            have d3 : w5.cell? ⟨wr.heap.size + 1 + 1 + 1, 0, none⟩ = some (.int .u64 D) := pw_cell_below hb5.out c3
            have d4 : w5.cell? ⟨wr.heap.size + 1 + 1, 0, none⟩ = some (.slice Af F.length cf) := pw_cell_below hb5.out c4
            clear hv0 hb0 hC5
            refine ⟨_, rfl, ?_⟩
            refine hK.out _ _ ⟨d1, d2, d3, d4⟩ (fun hHeld => ?_)
            clear hK K
            refine norm_ (a' := ?_) ?_ ?_
            rotate_left
            · show Act.put _ (some 50) _ = _
              simp only [Act.put, List.setIfInBounds_toArray, List.set_cons_zero, List.set_cons_succ, i64_w, i32_w]
              rfl
            refine one_ (i := 10) (N := some 51) #[true, true, true, true, true, true, true, true, true, true, true, false] rfl rfl (by kernel_rfl) (by decide) (fun K hK => ?_)
            refine goes_ Try.func80 (by kernel_rfl) rfl #[.int .u64 p, .slice A9 (polSum p pts n).length c9, .slice A5 (polTerm p pts n).length q5] (by rfl) rfl rfl (by (try simp only [List.map_toArray, List.map_cons, List.map_nil]); first | done | rfl) ?_
            refine (poly_Add.walks p hp A9 c9 (polSum p pts n) A5 q5 (polTerm p pts n) HSM.out.1 HT.out.1 (by have := HSM.out.2; omega) (by have := HT.out.2; omega) w5 HC95.out hc9 HC5.out hq5 (polSum p pts (n + 1)) ka HKA.out).mono ?_
            rintro e w6 ⟨v6, rfl, hv6, hb6⟩
            have HV6 := Aside0.mk hv6
            have hb6' := Aside0.mk hb6
            have k1 : w6.cell? ⟨w.heap.size, 0, none⟩ = some (.int .u64 p) := pw_cell_below hb6 d1
            have k2 : w6.cell? ⟨wr.heap.size, 1, none⟩ = some (.int .u64 Y) := pw_cell_below hb6 d2
            have k3 : w6.cell? ⟨wr.heap.size + 1 + 1 + 1, 0, none⟩ = some (.int .u64 D) := pw_cell_below hb6 d3
            have k4 : w6.cell? ⟨wr.heap.size + 1 + 1, 0, none⟩ = some (.slice Af F.length cf) := pw_cell_below hb6 d4
            clear hv6 hb6
            refine ⟨_, rfl, ?_⟩
            refine hK.out _ _ ⟨k1, k2, k3, k4⟩ (fun hHeld => ?_)
            clear hK K
            refine norm_ (a' := ?_) ?_ ?_
            rotate_left
            · show Act.put _ (some 51) _ = _
              simp only [Act.put, List.setIfInBounds_toArray, List.set_cons_zero, List.set_cons_succ, i64_w, i32_w]
              rfl
            refine pure_ (i := 11) (N := some 9) (v := ?_) (a' := ?_) #[true, true, true, true, true, true, true, true, true, true, true, true] rfl rfl (by kernel_rfl) (fun _ _ _ h => h) (Or.inl ⟨by rfl, ?_⟩) ?_ ?_
            rotate_left
            · intro w'
              go_simp
              with_reducible rfl
            rotate_left
            · simp only [Act.put, List.setIfInBounds_toArray, List.set_cons_zero, List.set_cons_succ, i64_w, i32_w]
              rfl
            refine done_ (by kernel_rfl) ?_
            go_wp2
            go_roundg (pts.length - (n + 1))
            case measure => have := HK.out; omega
            case rel =>
              have hbb : Below wr.heap.size wr w6 := below_then (below_then HI.out.below HI.out.below.size hb5.out) (Nat.le_trans HI.out.below.size hsz5.out) hb6'.out
              refine ⟨n + 1, by go_num, ⟨by omega⟩, ⟨?_⟩, ⟨below_then HB.out HB.out.size hbb⟩⟩
              exact Kd.R_lower HV6.out (Nat.le_trans HB.out.size (Nat.le_trans HI.out.below.size hsz5.out))
          · have hd : decide ((n : Int) < (pts.length : Int)) = false := decide_eq_false (by omega)
            have hn : n = pts.length := by have := HK.out; omega
            subst hn
            obtain ⟨A9, c9, e9, hc9, hC9⟩ := Kd.R_reads HS.out
            cases e9
            have hsum := polSum_ok hp HX.out pts.length (Nat.le_refl _)
            obtain ⟨kt, hkt⟩ := (trim_ev (polSum p pts pts.length) (by omega)).rounds
            have HT := Aside0.mk (show Calls Try.prog 83 #[.slice A9 (polSum p pts pts.length).length c9] wr fun e w' => ∃ v0_ : Value, e = .returned v0_ ∧ Kd.R (Kd.int .u64) 22 w' wr.heap.size (fun _ => True) v0_ (polL p pts) ∧ Below wr.heap.size wr w' from poly_Trim.calls kt A9 c9 (polSum p pts pts.length) (polL p pts) wr hC9 hc9 hkt)
            clear hlt HK hsum hkt hC9
            go_wp2_with (first | (go_at_call 83; (with_reducible refine HT.out.mono ?_); rintro e w4 ⟨v4, rfl, hv4, hb4⟩))
            first | go_ret2 | ((try simp only [Exit.inBlock, Exit.then]); refine bodyPost_ret (results_tmp rfl _ _ rfl) rfl ?_)
            rw [HRR.out]
            have hb1 := below_step HB3.out HB.out
            exact ⟨_, rfl, Kd.R_lower hv4 hb1.size, below_step hb1 hb4⟩
      · have hd : decide xs.Nodup = false := decide_eq_false hnd
        have hr1 := HR1.out
        have hr2 := HR2.out
        rw [if_neg hnd] at hr1 hr2
        subst hr1 hr2
        clear hnd HR1 HR2
        go_wp2_with (first | (go_at_call 109; (with_reducible refine HU.out.mono ?_); rintro e w1 ⟨rfl, hb3⟩; have HB3 := Aside0.mk (below_step HB.out hb3); clear hb3))
        first | go_ret2 | ((try simp only [Exit.inBlock, Exit.then]); refine bodyPost_ret (results_tmp rfl _ _ rfl) rfl ?_)
        exact ⟨_, rfl, Kd.R_nil _ _ _ _ _, HB3.out⟩
end Go.Proofs.Ytejeelpnmdfibaa.Hw
end
section
/-
  What is proved by hand, in the printer's contract form: Add, Mul, LagrangeWeights, Polynomial.
-/
namespace Go.Proofs.Ytejeelpnmdfibaa.Hw
open Go.RowKit Go.Proofs.Ytejeelpnmdfibaa.Pr Go.Proofs.YtejeelpnmdfibaaW.PrintWords Go.Proofs.YtejeelpnmdfibaaW.PrintLast Go.Proofs.YtejeelpnmdfibaaW.PrintMore Go.Proofs.Ytejeelpnmdfibaa.E
set_option linter.unusedVariables false
set_option linter.unusedSimpArgs false

def supB (p : Int) : Bool := decide (p = 31) || decide (p = 127) || decide (p = 8191) || decide (p = 131071) || decide (p = 524287) || decide (p = 2147483647) || decide (p = 2305843009213693951)
theorem supB_of {p : Int} (h : supB p = true) : Supp p := by
  simp only [supB, Bool.or_eq_true, decide_eq_true_eq] at h
  rcases h with (((((h | h) | h) | h) | h) | h) | h
  · exact ⟨5, Or.inl ⟨h, rfl⟩⟩
  · exact ⟨7, Or.inr (Or.inl ⟨h, rfl⟩)⟩
  · exact ⟨13, Or.inr (Or.inr (Or.inl ⟨h, rfl⟩))⟩
  · exact ⟨17, Or.inr (Or.inr (Or.inr (Or.inl ⟨h, rfl⟩)))⟩
  · exact ⟨19, Or.inr (Or.inr (Or.inr (Or.inr (Or.inl ⟨h, rfl⟩))))⟩
  · exact ⟨31, Or.inr (Or.inr (Or.inr (Or.inr (Or.inr (Or.inl ⟨h, rfl⟩)))))⟩
  · exact ⟨61, Or.inr (Or.inr (Or.inr (Or.inr (Or.inr (Or.inr ⟨h, rfl⟩)))))⟩
theorem supB_iff {p : Int} : supB p = true ↔ Supp p := by
  refine ⟨supB_of, fun ⟨q, h⟩ => ?_⟩
  rcases h with ⟨rfl, _⟩ | ⟨rfl, _⟩ | ⟨rfl, _⟩ | ⟨rfl, _⟩ | ⟨rfl, _⟩ | ⟨rfl, _⟩ | ⟨rfl, _⟩ <;> rfl
def resB (p x : Int) : Bool := decide (0 ≤ x) && decide (x < p)
theorem resB_iff {p x : Int} : resB p x = true ↔ Res p x := by simp [resB, Res]
def ressB (p : Int) (l : List Int) : Bool := l.all (resB p)
theorem ressB_iff {p : Int} {l : List Int} : ressB p l = true ↔ ∀ x ∈ l, Res p x := by simp [ressB, resB_iff]
def ptsB (p : Int) (l : List S97) : Bool := l.all fun x => resB p x.f0 && resB p x.f1
theorem ptsB_iff {p : Int} {l : List S97} : ptsB p l = true ↔ PtsOk p l := by simp [ptsB, PtsOk, resB_iff]
theorem ifs {c : Prop} [Decidable c] {α : Type} {x : Option α} {r : α} (h : (if c then x else none) = some r) : c ∧ x = some r := by
  by_cases hc : c
  · rw [if_pos hc] at h; exact ⟨hc, h⟩
  · rw [if_neg hc] at h; cases h
def poly_Add.f (a0 : Int) (l1 l2 : List Int) : Option (List Int) :=
  if supB a0 = true then (if ressB a0 l1 = true then (if ressB a0 l2 = true then (if l1.length ≤ 1000000 then (if l2.length ≤ 1000000 then some (trimL (addP a0 l1 l2)) else none) else none) else none) else none) else none
theorem poly_Add.calls (a0 : Int) (A1 : Option Addr) (c1 : Nat) (l1 : List Int) (A2 : Option Addr) (c2 : Nat) (l2 : List Int) (r : List Int) (w : World) (hr1 : Kd.C (Kd.int .u64) w A1 l1.length l1) (hc1 : l1.length ≤ c1) (hr2 : Kd.C (Kd.int .u64) w A2 l2.length l2) (hc2 : l2.length ≤ c2) (h : poly_Add.f a0 l1 l2 = some r) :
    Calls Try.prog 80 #[.int .u64 a0, .slice A1 l1.length c1, .slice A2 l2.length c2] w fun e w' => ∃ v0_ : Value, e = .returned (v0_) ∧ Kd.R (Kd.int .u64) 22 w' w.heap.size (fun _ => True) v0_ r ∧ Below w.heap.size w w' := by
  unfold poly_Add.f at h
  obtain ⟨h1, h⟩ := ifs h
  obtain ⟨h2, h⟩ := ifs h
  obtain ⟨h3, h⟩ := ifs h
  obtain ⟨h4, h⟩ := ifs h
  obtain ⟨h5, h⟩ := ifs h
  cases h
  obtain ⟨k, hk⟩ := (trim_ev (addP a0 l1 l2) (by rw [addP_length]; omega)).rounds
  exact poly_Add.walks a0 (supB_of h1) A1 c1 l1 A2 c2 l2 (ressB_iff.1 h2) (ressB_iff.1 h3) (by omega) (by omega) w hr1 hc1 hr2 hc2 _ k hk
def poly_Mul.f (a0 : Int) (l1 l2 : List Int) : Option (List Int) :=
  if supB a0 = true then (if ressB a0 l1 = true then (if ressB a0 l2 = true then (if l1.length ≤ 1000000 then (if l2.length ≤ 1000000 then some (trimL (mulsL a0 l1 l2 l1.length)) else none) else none) else none) else none) else none
theorem poly_Mul.calls (a0 : Int) (A1 : Option Addr) (c1 : Nat) (l1 : List Int) (A2 : Option Addr) (c2 : Nat) (l2 : List Int) (r : List Int) (w : World) (hr1 : Kd.C (Kd.int .u64) w A1 l1.length l1) (hc1 : l1.length ≤ c1) (hr2 : Kd.C (Kd.int .u64) w A2 l2.length l2) (hc2 : l2.length ≤ c2) (h : poly_Mul.f a0 l1 l2 = some r) :
    Calls Try.prog 52 #[.int .u64 a0, .slice A1 l1.length c1, .slice A2 l2.length c2] w fun e w' => ∃ v0_ : Value, e = .returned (v0_) ∧ Kd.R (Kd.int .u64) 22 w' w.heap.size (fun _ => True) v0_ r ∧ Below w.heap.size w w' := by
  unfold poly_Mul.f at h
  obtain ⟨h1, h⟩ := ifs h
  obtain ⟨h2, h⟩ := ifs h
  obtain ⟨h3, h⟩ := ifs h
  obtain ⟨h4, h⟩ := ifs h
  obtain ⟨h5, h⟩ := ifs h
  cases h
  obtain ⟨k, hk⟩ := (trim_ev (mulsL a0 l1 l2 l1.length) (by have := mulsL_length a0 l1 l2 l1.length; omega)).rounds
  exact poly_Mul.walks a0 (supB_of h1) A1 c1 l1 A2 c2 l2 (ressB_iff.1 h2) (ressB_iff.1 h3) (by omega) (by omega) w hr1 hc1 hr2 hc2 _ k hk
def interpolate_Polynomial.f (a0 : Int) (l1 : List S97) : Option (List Int × Int) :=
  if supB a0 = true then (if ptsB a0 l1 = true then (if l1.length ≤ 12 then some (if (xsOf l1).Nodup then polL a0 l1 else [], if (xsOf l1).Nodup then 0 else 1) else none) else none) else none
theorem interpolate_Polynomial.calls (a0 : Int) (A1 : Option Addr) (c1 : Nat) (l1 : List S97) (r1 : List Int) (r2 : Int) (w : World) (hr1 : Kd.C k97 w A1 l1.length l1) (hc1 : l1.length ≤ c1) (h : interpolate_Polynomial.f a0 l1 = some (r1, r2)) :
    Calls Try.prog 99 #[.int .u64 a0, .slice A1 l1.length c1] w fun e w' => ∃ v0_ : Value, e = .returned (.tuple #[v0_, .int .i64 r2]) ∧ Kd.R (Kd.int .u64) 22 w' w.heap.size (fun _ => True) v0_ r1 ∧ Below w.heap.size w w' := by
  unfold interpolate_Polynomial.f at h
  obtain ⟨h1, h⟩ := ifs h
  obtain ⟨h2, h⟩ := ifs h
  obtain ⟨h3, h⟩ := ifs h
  have h := Option.some.inj h
  have e1 := congrArg Prod.fst h
  have e2 := congrArg Prod.snd h
  simp only at e1 e2
  rw [← e1, ← e2]
  exact pol_walk (supB_of h1) A1 c1 l1 (ptsB_iff.1 h2) h3 w hr1 hc1
end Go.Proofs.Ytejeelpnmdfibaa.Hw
end
section
/-
  Plain mathematics: polynomials over a prime field, as lists of coefficients: values, roots, uniqueness. No program in sight.
-/
namespace Go.Proofs.Ytejeelpnmdfibaa.Pl
open Go.Proofs.Ytejeelpnmdfibaa.Fd

section
variable {p : Nat} [NeZero p]

/-- The value at x: the lowest coefficient first. -/
def ev (x : Fin p) : List (Fin p) → Fin p
  | [] => 0
  | c :: f => c + x * ev x f
/-- The quotient by X - a. -/
def quot (a : Fin p) : List (Fin p) → List (Fin p)
  | [] => []
  | _ :: f => match f with
    | [] => []
    | _ => ev a f :: quot a f
theorem quot_length (a : Fin p) : ∀ f : List (Fin p), (quot a f).length = f.length - 1
  | [] => rfl
  | [_] => rfl
  | _ :: d :: f => by
    have := quot_length a (d :: f)
    simp only [quot, List.length_cons] at *
    omega
theorem quot_spec (a x : Fin p) : ∀ f : List (Fin p), ev x f = (x - a) * ev x (quot a f) + ev a f
  | [] => by simp only [quot, ev]; grind
  | [c] => by simp only [quot, ev]; grind
  | c :: d :: f => by
    have h := quot_spec a x (d :: f)
    have e : quot a (c :: d :: f) = ev a (d :: f) :: quot a (d :: f) := rfl
    rw [e]
    generalize hq : quot a (d :: f) = q at *
    rw [ev, h]
    show _ = (x - a) * (ev a (d :: f) + x * ev x q) + (c + a * ev a (d :: f))
    grind
theorem zero_of_quot (a : Fin p) : ∀ f : List (Fin p), (∀ c ∈ quot a f, c = 0) → ev a f = 0 → ∀ c ∈ f, c = 0
  | [], _, _ => by simp
  | [c], _, h => by
    intro x hx
    have h : c + a * 0 = 0 := h
    simp only [List.mem_cons, List.not_mem_nil, or_false] at hx
    subst hx; grind
  | c :: d :: f, hq, h => by
    have e : quot a (c :: d :: f) = ev a (d :: f) :: quot a (d :: f) := rfl
    rw [e] at hq
    have h1 : ev a (d :: f) = 0 := hq _ (by simp)
    have ih := zero_of_quot a (d :: f) (fun x hx => hq x (List.mem_cons_of_mem _ hx)) h1
    have h2 : c + a * ev a (d :: f) = 0 := h
    rw [h1] at h2
    have hc : c = 0 := by grind
    intro x hx
    rcases List.mem_cons.1 hx with rfl | hx
    · exact hc
    · exact ih x hx
/-- No zero divisors. -/
def Dom (p : Nat) [NeZero p] : Prop := ∀ a b : Fin p, a * b = 0 → a = 0 ∨ b = 0
theorem zero_of_roots (hd : Dom p) : ∀ (xs f : List (Fin p)), xs.Nodup → f.length ≤ xs.length → (∀ x ∈ xs, ev x f = 0) → ∀ c ∈ f, c = 0
  | [], f, _, hl, _ => by
    have : f = [] := by cases f with | nil => rfl | cons _ _ => simp at hl
    subst this; simp
  | a :: xs, f, hn, hl, h => by
    have hn' := List.nodup_cons.1 hn
    refine zero_of_quot a f (zero_of_roots hd xs (quot a f) hn'.2 (by rw [quot_length]; simp at hl; omega) fun x hx => ?_) (h a (by simp))
    have h1 := quot_spec a x f
    rw [h x (List.mem_cons_of_mem _ hx), h a (by simp)] at h1
    have h2 : (x - a) * ev x (quot a f) = 0 := by grind
    rcases hd _ _ h2 with h3 | h3
    · have : x = a := by grind
      subst this; exact absurd hx hn'.1
    · exact h3
/-- The difference, coefficient by coefficient. -/
def sub : List (Fin p) → List (Fin p) → List (Fin p)
  | [], g => g.map fun c => -c
  | f, [] => f
  | c :: f, d :: g => (c - d) :: sub f g
omit [NeZero p] in
theorem sub_length : ∀ f g : List (Fin p), (sub f g).length = max f.length g.length
  | [], g => by simp [sub]
  | _ :: _, [] => by simp [sub]
  | _ :: f, _ :: g => by simp [sub, sub_length f g]
theorem ev_neg (x : Fin p) : ∀ f : List (Fin p), ev x (f.map fun c => -c) = - ev x f
  | [] => by simp only [List.map_nil, ev]; grind
  | c :: f => by simp only [List.map_cons, ev, ev_neg x f]; grind
theorem ev_sub (x : Fin p) : ∀ f g : List (Fin p), ev x (sub f g) = ev x f - ev x g
  | [], g => by simp only [sub, ev_neg, ev]; grind
  | _ :: _, [] => by simp only [sub, ev]; grind
  | c :: f, d :: g => by simp only [sub, ev, ev_sub x f g]; grind
theorem getD_sub (i : Nat) : ∀ f g : List (Fin p), (sub f g).getD i 0 = f.getD i 0 - g.getD i 0 := by
  induction i with
  | zero =>
    intro f g
    cases f with
    | nil => cases g with
      | nil => simp only [sub, List.map_nil, List.getD_nil]; grind
      | cons d g => simp only [sub, List.map_cons, List.getD_cons_zero, List.getD_nil]; grind
    | cons c f => cases g with
      | nil => simp only [sub, List.getD_cons_zero, List.getD_nil]; grind
      | cons d g => simp only [sub, List.getD_cons_zero]
  | succ i ih =>
    intro f g
    cases f with
    | nil => cases g with
      | nil => simp only [sub, List.map_nil, List.getD_nil]; grind
      | cons d g =>
        have := ih [] g
        simp only [sub, List.map_cons, List.getD_cons_succ, List.getD_nil] at *
        exact this
    | cons c f => cases g with
      | nil => simp only [sub, List.getD_cons_succ, List.getD_nil]; grind
      | cons d g => simp only [sub, List.getD_cons_succ]; exact ih f g
theorem getD_zero {f : List (Fin p)} (h : ∀ c ∈ f, c = 0) (i : Nat) : f.getD i 0 = 0 := by
  rw [List.getD_eq_getElem?_getD]
  by_cases hi : i < f.length
  · rw [List.getElem?_eq_getElem hi]; exact h _ (List.getElem_mem hi)
  · rw [List.getElem?_eq_none (by omega)]; rfl
/-- Two polynomials of at most n coefficients that agree at n points are one. -/
theorem unique (hd : Dom p) (xs f g : List (Fin p)) (hn : xs.Nodup) (hf : f.length ≤ xs.length) (hg : g.length ≤ xs.length) (h : ∀ x ∈ xs, ev x f = ev x g) (i : Nat) : f.getD i 0 = g.getD i 0 := by
  have h1 := getD_zero (zero_of_roots hd xs (sub f g) hn (by rw [sub_length]; omega) fun x hx => by rw [ev_sub, h x hx]; grind) i
  rw [getD_sub] at h1
  grind
/-- Values do not see zeros at the end. -/
theorem ev_congr (x : Fin p) : ∀ f g : List (Fin p), (∀ i, f.getD i 0 = g.getD i 0) → ev x f = ev x g := by
  intro f g h
  have : ∀ c ∈ sub f g, c = 0 := by
    intro c hc
    obtain ⟨i, hi, rfl⟩ := List.getElem_of_mem hc
    have := getD_sub i f g
    rw [h i, List.getD_eq_getElem?_getD, List.getElem?_eq_getElem hi] at this
    simp only [Option.getD_some] at this
    rw [this]; grind
  have h0 : ∀ l : List (Fin p), (∀ c ∈ l, c = 0) → ev x l = 0 := by
    intro l
    induction l with
    | nil => intro _; rfl
    | cons c l ih => intro hl; rw [ev, ih (fun d hd => hl d (List.mem_cons_of_mem _ hd)), hl c (by simp)]; grind
  have h1 := h0 _ this
  rw [ev_sub] at h1
  grind
end
end Go.Proofs.Ytejeelpnmdfibaa.Pl
end
section
/-
  Plain mathematics: values of lists of residues, whole numbers as residues, products of linear factors. No program in sight.
-/
namespace Go.Proofs.Ytejeelpnmdfibaa.Pl
open Go.Proofs.Ytejeelpnmdfibaa.Fd

section
variable {p : Nat} [NeZero p]

/-- The n-th power. -/
def mono (x : Fin p) : Nat → Fin p
  | 0 => 1
  | n + 1 => x * mono x n
theorem mono_add (x : Fin p) (a : Nat) : ∀ b, mono x (a + b) = mono x a * mono x b
  | 0 => by simp only [mono, Nat.add_zero]; grind
  | b + 1 => by rw [← Nat.add_assoc]; simp only [mono]; rw [mono_add x a b]; grind
theorem ev_append (x : Fin p) : ∀ f g : List (Fin p), ev x (f ++ g) = ev x f + mono x f.length * ev x g
  | [], g => by simp only [List.nil_append, ev, List.length_nil, mono]; grind
  | c :: f, g => by simp only [List.cons_append, ev, List.length_cons, mono, ev_append x f g]; grind
theorem ev_zeros (x : Fin p) : ∀ n, ev x (List.replicate n 0) = 0
  | 0 => rfl
  | n + 1 => by simp only [List.replicate_succ, ev, ev_zeros x n]; grind
theorem ev_set (x v : Fin p) : ∀ (f : List (Fin p)) (i : Nat), i < f.length → ev x (f.set i v) = ev x f + (v - f.getD i 0) * mono x i
  | [], _, h => by simp at h
  | c :: f, 0, _ => by simp only [List.set_cons_zero, ev, mono, List.getD_cons_zero]; grind
  | c :: f, i + 1, h => by
    have := ev_set x v f i (by simpa using h)
    simp only [List.set_cons_succ, ev, mono, List.getD_cons_succ, this]; grind
theorem ev_take_succ (x : Fin p) : ∀ (f : List (Fin p)) (n : Nat), ev x (f.take (n + 1)) = ev x (f.take n) + f.getD n 0 * mono x n
  | [], n => by simp only [List.take_nil, List.getD_nil, ev]; grind
  | c :: f, 0 => by simp only [List.take_succ_cons, List.take_zero, ev, List.getD_cons_zero, mono]; grind
  | c :: f, n + 1 => by
    have := ev_take_succ x f n
    simp only [List.take_succ_cons, ev, List.getD_cons_succ, mono] at *
    rw [this]; grind
/-- A whole number's residue. -/
def tf (p : Nat) [NeZero p] (a : Int) : Fin p := ⟨(a % (p : Int)).toNat, by
  have h : (0 : Int) < p := by have := Nat.pos_of_neZero p; omega
  have := Int.emod_lt_of_pos a h
  have := Int.emod_nonneg a (by omega : (p : Int) ≠ 0)
  omega⟩
theorem tf_val (a : Int) : (((tf p a).val : Nat) : Int) = a % (p : Int) := by
  have h : (0 : Int) < p := by have := Nat.pos_of_neZero p; omega
  show (((a % (p : Int)).toNat : Nat) : Int) = _
  rw [Int.toNat_of_nonneg (Int.emod_nonneg a (by omega))]
theorem tf_eq {a : Int} {x : Fin p} (h : ((x.val : Nat) : Int) = a % (p : Int)) : tf p a = x := by
  apply Fin.ext
  have := tf_val (p := p) a
  omega
theorem tf_of_emod {a b : Int} (h : a % (p : Int) = b % (p : Int)) : tf p a = tf p b := tf_eq (by rw [tf_val, h])
theorem tf_emod (a : Int) : tf p (a % (p : Int)) = tf p a := tf_of_emod (Int.emod_emod_of_dvd _ (Int.dvd_refl _))
theorem tf_add (a b : Int) : tf p (a + b) = tf p a + tf p b := by
  refine tf_eq ?_
  rw [Fin.val_add, Int.natCast_emod, Int.natCast_add, tf_val, tf_val, ← Int.add_emod]
theorem tf_mul (a b : Int) : tf p (a * b) = tf p a * tf p b := by
  refine tf_eq ?_
  rw [Fin.val_mul, Int.natCast_emod, Int.natCast_mul, tf_val, tf_val, ← Int.mul_emod]
theorem tf_zero : tf p 0 = 0 := tf_eq (by simp)
theorem tf_one : tf p 1 = 1 := by
  refine tf_eq ?_
  rw [show ((1 : Fin p).val) = 1 % p from rfl]; simp
theorem tf_neg (a : Int) : tf p (-a) = - tf p a := by
  have h : tf p (-a) + tf p a = 0 := by rw [← tf_add, show -a + a = 0 from by omega, tf_zero]
  grind
theorem tf_sub (a b : Int) : tf p (a - b) = tf p a - tf p b := by rw [Int.sub_eq_add_neg, tf_add, tf_neg]; grind
theorem tf_of_val (x : Fin p) : tf p ((x.val : Nat) : Int) = x := tf_eq (by
  have := x.isLt
  rw [← Int.natCast_emod, Nat.mod_eq_of_lt this])
theorem tf_inj {a b : Int} (ha : 0 ≤ a ∧ a < (p : Int)) (hb : 0 ≤ b ∧ b < (p : Int)) (h : tf p a = tf p b) : a = b := by
  have h1 := tf_val (p := p) a
  rw [h, tf_val, Int.emod_eq_of_lt ha.1 ha.2, Int.emod_eq_of_lt hb.1 hb.2] at h1
  exact h1.symm
theorem getD_tf (l : List Int) (i : Nat) : (l.map (tf p)).getD i 0 = tf p (l.getD i 0) := by
  rw [List.getD_eq_getElem?_getD, List.getD_eq_getElem?_getD, List.getElem?_map]
  cases l[i]? with
  | none => simp [tf_zero]
  | some v => rfl
/-- The product of the factors y - o. -/
def lin (y : Fin p) : List (Fin p) → Fin p
  | [] => 1
  | o :: l => (y - o) * lin y l
theorem lin_zero {y : Fin p} : ∀ {l : List (Fin p)}, y ∈ l → lin y l = 0
  | o :: l, h => by
    rcases List.mem_cons.1 h with h | h
    · subst h; simp only [lin]; grind
    · simp only [lin]; rw [lin_zero h]; grind
end
end Go.Proofs.Ytejeelpnmdfibaa.Pl
end
section
/-
  What the hand-proved functions compute, as polynomials over the field: values, lengths, uniqueness.
-/
namespace Go.Proofs.Ytejeelpnmdfibaa.E
open Go.RowKit Go.Proofs.Ytejeelpnmdfibaa.Pr Go.Proofs.Ytejeelpnmdfibaa.Hw Go.Proofs.Ytejeelpnmdfibaa.Pl Go.Proofs.YtejeelpnmdfibaaW.PrintWords Go.Proofs.YtejeelpnmdfibaaW.PrintLast Go.Proofs.YtejeelpnmdfibaaW.PrintMore
set_option linter.unusedVariables false
set_option linter.unusedSimpArgs false

theorem nz {p : Int} (hp : Supp p) : NeZero p.toNat := ⟨by have := hp.bd; omega⟩
theorem cast_p {p : Int} (hp : Supp p) : ((p.toNat : Nat) : Int) = p := by have := hp.bd; omega
section
variable {p : Int} (hp : Supp p) [NeZero p.toNat]

/-- The residue, in the field. -/
def T (p : Int) [NeZero p.toNat] (a : Int) : Fin p.toNat := tf p.toNat a
def M (p : Int) [NeZero p.toNat] (l : List Int) : List (Fin p.toNat) := l.map (T p)
include hp in
theorem T_mod (a : Int) : T p (a % p) = T p a := by
  have h := tf_emod (p := p.toNat) a
  rw [cast_p hp] at h; exact h
theorem T_add (a b : Int) : T p (a + b) = T p a + T p b := tf_add a b
theorem T_mul (a b : Int) : T p (a * b) = T p a * T p b := tf_mul a b
theorem T_sub (a b : Int) : T p (a - b) = T p a - T p b := tf_sub a b
theorem T_neg (a : Int) : T p (-a) = - T p a := tf_neg a
theorem T_zero : T p 0 = 0 := tf_zero
theorem T_one : T p 1 = 1 := tf_one
include hp in
theorem T_inj {a b : Int} (ha : Res p a) (hb : Res p b) (h : T p a = T p b) : a = b :=
  tf_inj (p := p.toNat) (by rw [cast_p hp]; exact ha) (by rw [cast_p hp]; exact hb) h
include hp in
theorem T_inv {a : Int} (ha : Res p a) (h0 : a ≠ 0) : T p a * T p (invp p a) = 1 := by
  rw [← T_mul, ← T_one, ← T_mod hp (a * invp p a), inv_spec hp ha h0]
include hp in
theorem T_back (x : Fin p.toNat) : Res p ((x.val : Nat) : Int) ∧ T p ((x.val : Nat) : Int) = x := by
  have := x.isLt
  have := cast_p hp
  exact ⟨⟨by omega, by omega⟩, tf_of_val x⟩
include hp in
theorem dom : Dom p.toNat := by
  intro a b h
  obtain ⟨r, e⟩ := T_back hp a
  by_cases h0 : ((a.val : Nat) : Int) = 0
  · left; rw [← e, h0, T_zero]
  · right
    have h1 := T_inv hp r h0
    rw [e] at h1
    grind
include hp in
theorem ev_evI (x : Int) : ∀ l, T p (evI p x l) = ev (T p x) (M p l)
  | [] => T_zero
  | c :: l => by
    have := ev_evI x l
    simp only [evI, M, List.map_cons, ev]
    rw [T_mod hp, T_add, T_mod hp, T_mul, this, M]
    grind
theorem M_getD (l : List Int) (i : Nat) : (M p l).getD i 0 = T p (l.getD i 0) := getD_tf l i
theorem M_length (l : List Int) : (M p l).length = l.length := List.length_map _
theorem ev_trimL (x : Fin p.toNat) (l : List Int) : ev x (M p (trimL l)) = ev x (M p l) :=
  ev_congr x _ _ (fun i => by rw [M_getD, M_getD, trimL_getD])
theorem ev_grow (x : Fin p.toNat) (l : List Int) (n : Nat) : ev x (M p (grow l n)) = ev x (M p l) := by
  have : M p (grow l n) = M p l ++ List.replicate (n - l.length) 0 := by
    unfold grow M; rw [List.map_append, List.map_replicate, T_zero]
  rw [this, ev_append, ev_zeros]; grind
include hp in
theorem ev_put (x : Fin p.toNat) (l : List Int) (i : Nat) (k : Int) : ev x (M p (putL p l i k)) = ev x (M p l) + T p k * mono x i := by
  have hg : i < (grow l (i + 1)).length := by unfold grow; simp; omega
  have : M p (putL p l i k) = (M p (grow l (i + 1))).set i (T p ((grow l (i + 1)).getD i 0) + T p k) := by
    unfold putL M; rw [List.map_set, T_mod hp, T_add]
  rw [this, ev_set _ _ _ _ (by rw [M_length]; exact hg), ev_grow, M_getD]
  grind
include hp in
theorem ev_puts (x : Fin p.toNat) (m l : List Int) : ∀ n, ev x (M p (putsL p m l n)) = ev x (M p m) + ev x ((M p l).take n)
  | 0 => by simp only [putsL, List.take_zero, ev]; grind
  | n + 1 => by rw [putsL, ev_put hp, ev_puts x m l n, ev_take_succ, M_getD]; grind
theorem M_take_all (l : List Int) : (M p l).take l.length = M p l := by rw [← M_length (p := p) l, List.take_length]
include hp in
theorem ev_addP (x : Fin p.toNat) (a b : List Int) : ev x (M p (addP p a b)) = ev x (M p a) + ev x (M p b) := by
  unfold addP
  rw [ev_puts hp, ev_puts hp, M_take_all, M_take_all]
  show ev x [] + _ + _ = _
  simp only [ev]; grind
include hp in
theorem ev_row (x : Fin p.toNat) (m : List Int) (u : Int) (b : List Int) (i : Nat) : ∀ n, ev x (M p (rowL p m u b i n)) = ev x (M p m) + T p u * mono x i * ev x ((M p b).take n)
  | 0 => by simp only [rowL, List.take_zero, ev]; grind
  | n + 1 => by
    rw [rowL, ev_put hp, ev_row x m u b i n, ev_take_succ, M_getD, T_mod hp, T_mul, mono_add, rd_nat]; grind
include hp in
theorem ev_muls (x : Fin p.toNat) (a b : List Int) : ∀ n, ev x (M p (mulsL p a b n)) = ev x ((M p a).take n) * ev x (M p b)
  | 0 => by simp only [mulsL, List.take_zero, M, List.map_nil, ev]; grind
  | n + 1 => by rw [mulsL, ev_row hp, ev_muls x a b n, M_take_all, ev_take_succ, M_getD, rd_nat]; grind
include hp in
theorem ev_scaleL (x : Fin p.toNat) (k : Int) : ∀ l, ev x (M p (l.map fun v => k * v % p)) = T p k * ev x (M p l)
  | [] => by simp only [M, List.map_nil, ev]; grind
  | c :: l => by
    have := ev_scaleL x k l
    simp only [M, List.map_cons, ev] at *
    rw [this, T_mod hp, T_mul]; grind
include hp in
theorem M_nodup : ∀ {xs : List Int}, (∀ x ∈ xs, Res p x) → xs.Nodup → (M p xs).Nodup
  | [], _, _ => List.nodup_nil
  | a :: xs, h, hn => by
    have hn' := List.nodup_cons.1 hn
    refine List.nodup_cons.2 ⟨fun hm => ?_, M_nodup (fun x hx => h x (List.mem_cons_of_mem _ hx)) hn'.2⟩
    obtain ⟨b, hb, e⟩ := List.mem_map.1 hm
    have := T_inj hp (h b (List.mem_cons_of_mem _ hb)) (h a (by simp)) e
    exact hn'.1 (this ▸ hb)
end

/-- Two lists of residues with at most n coefficients that agree at n points are one, but for zeros at the end. -/
theorem uniq {p : Int} (hp : Supp p) {xs f g : List Int} (hx : ∀ x ∈ xs, Res p x) (hn : xs.Nodup) (hf : ∀ x ∈ f, Res p x) (hg : ∀ x ∈ g, Res p x) (lf : f.length ≤ xs.length) (lg : g.length ≤ xs.length)
    (h : ∀ x ∈ xs, evI p x f = evI p x g) : trimL f = trimL g := by
  haveI := nz hp
  have hb := hp.bd
  refine trimL_ext fun i => ?_
  have hz : ∀ {l : List Int}, (∀ x ∈ l, Res p x) → Res p (l.getD i 0) := by
    intro l hl
    rw [List.getD_eq_getElem?_getD]
    by_cases hi : i < l.length
    · rw [List.getElem?_eq_getElem hi]; exact hl _ (List.getElem_mem hi)
    · rw [List.getElem?_eq_none (by omega)]; exact ⟨Int.le_refl 0, by show (0 : Int) < p; omega⟩
  refine T_inj hp (hz hf) (hz hg) ?_
  rw [← M_getD, ← M_getD]
  refine unique (dom hp) (M p xs) (M p f) (M p g) (M_nodup hp hx hn) (by simp only [M_length]; exact lf) (by simp only [M_length]; exact lg) (fun y hy => ?_) i
  obtain ⟨x, hxx, rfl⟩ := List.mem_map.1 hy
  rw [← ev_evI hp, ← ev_evI hp, h x hxx]
theorem mulsL_lin_length {p : Int} (f : List Int) (o : Int) : ∀ n, (mulsL p f [o, 1] n).length ≤ n + 1 := by
  intro n
  induction n with
  | zero => simp [mulsL]
  | succ n ih =>
    show (rowL p (mulsL p f [o, 1] n) (rd f n) [o, 1] n 2).length ≤ _
    simp only [rowL, putL_length, Nat.add_zero]; omega
section
variable {p : Int} (hp : Supp p) [NeZero p.toNat]
include hp in
/-- The factors of one round, as values. -/
theorem polS_ev (y : Fin p.toNat) (X : Int) : ∀ (l : List Int) (s : List Int × Int),
    ev y (M p (l.foldl (polStep p X) s).1) = ev y (M p s.1) * lin y (M p l) ∧ T p (l.foldl (polStep p X) s).2 = T p s.2 * lin (T p X) (M p l) ∧ (l.foldl (polStep p X) s).1.length ≤ s.1.length + l.length
  | [], s => ⟨by show _ = _ * 1; grind, by show _ = _ * 1; grind, by simp⟩
  | o :: l, s => by
    obtain ⟨h1, h2, h3⟩ := polS_ev y X l (polStep p X s o)
    have e1 : ev y (M p (polStep p X s o).1) = ev y (M p s.1) * (y - T p o) := by
      show ev y (M p (trimL (mulsL p s.1 [-o % p, 1] s.1.length))) = _
      rw [ev_trimL, ev_muls hp, M_take_all]
      simp only [M, List.map_cons, List.map_nil, ev, T_mod hp, T_neg, T_one]
      grind
    have e2 : T p (polStep p X s o).2 = T p s.2 * (T p X - T p o) := by
      show T p (s.2 * ((X - o) % p) % p) = _
      rw [T_mod hp, T_mul, T_mod hp, T_sub]
    have e3 : (polStep p X s o).1.length ≤ s.1.length + 1 := Nat.le_trans (trimL_length _) (mulsL_lin_length s.1 _ _)
    simp only [List.foldl_cons, List.length_cons]
    rw [h1, h2, e1, e2]
    refine ⟨?_, ?_, by omega⟩
    · simp only [M, List.map_cons, lin]; grind
    · simp only [M, List.map_cons, lin]; grind
end

theorem othersN_len (xs : List Int) (i : Nat) : ∀ n, (othersN xs i n).length = if i < n then n - 1 else n
  | 0 => rfl
  | n + 1 => by
    have ih := othersN_len xs i n
    unfold othersN
    by_cases h : n = i
    · subst h; rw [if_pos rfl, ih, if_neg (by omega), if_pos (by omega)]; omega
    · rw [if_neg h, List.length_append, ih]
      by_cases h2 : i < n
      · rw [if_pos h2, if_pos (by omega)]; simp; omega
      · rw [if_neg h2, if_neg (by omega)]; simp
theorem othersN_has (xs : List Int) (i j : Nat) (hne : j ≠ i) : ∀ n, j < n → rd xs j ∈ othersN xs i n
  | n + 1, h => by
    unfold othersN
    by_cases hj : j = n
    · subst hj; rw [if_neg hne]; simp
    · have := othersN_has xs i j hne n (by omega)
      split
      · exact this
      · exact List.mem_append_left _ this
section
variable {p : Int} (hp : Supp p) [NeZero p.toNat]
/-- The sum of n values. -/
def sumF (f : Nat → Fin p.toNat) : Nat → Fin p.toNat
  | 0 => 0
  | n + 1 => sumF f n + f n
theorem sumF_congr {f g : Nat → Fin p.toNat} : ∀ n, (∀ i, i < n → f i = g i) → sumF f n = sumF g n
  | 0, _ => rfl
  | n + 1, h => by simp only [sumF]; rw [sumF_congr n (fun i hi => h i (by omega)), h n (by omega)]
theorem sumF_one {f : Nat → Fin p.toNat} {j : Nat} : ∀ n, (∀ i, i < n → i ≠ j → f i = 0) → sumF f n = if j < n then f j else 0
  | 0, _ => rfl
  | n + 1, h => by
    simp only [sumF]
    rw [sumF_one n (fun i hi => h i (by omega))]
    by_cases hj : j = n
    · subst hj; rw [if_neg (by omega), if_pos (by omega)]; grind
    · rw [h n (by omega) (fun e => hj e.symm)]
      by_cases h2 : j < n
      · rw [if_pos h2, if_pos (by omega)]; grind
      · rw [if_neg h2, if_neg (by omega)]; grind
/-- The other places, in the field. -/
def oth (p : Int) [NeZero p.toNat] (xs : List Int) (i : Nat) : List (Fin p.toNat) := M p (othersN xs i xs.length)
/-- One over the product of the differences. -/
def dinv (p : Int) [NeZero p.toNat] (xs : List Int) (i : Nat) : Fin p.toNat := T p (invp p (lagS p 0 xs i).2)
include hp in
theorem lagS_ev (a : Int) (X : Int) : ∀ (l : List Int) (s : Int × Int),
    T p (l.foldl (lagStep p a X) s).1 = T p s.1 * lin (T p a) (M p l) ∧ T p (l.foldl (lagStep p a X) s).2 = T p s.2 * lin (T p X) (M p l)
  | [], s => ⟨by show _ = _ * 1; grind, by show _ = _ * 1; grind⟩
  | o :: l, s => by
    obtain ⟨h1, h2⟩ := lagS_ev a X l (lagStep p a X s o)
    simp only [List.foldl_cons, M, List.map_cons, lin]
    rw [h1, h2]
    simp only [lagStep, M]
    rw [T_mod hp, T_mod hp, T_mul, T_mul, T_mod hp, T_mod hp, T_sub, T_sub]
    constructor <;> grind
include hp in
theorem dinv_spec {xs : List Int} (hx : ∀ x ∈ xs, Res p x) (hn : xs.Nodup) (i : Nat) (hi : i < xs.length) : lin (T p (rd xs i)) (oth p xs i) * dinv p xs i = 1 := by
  have hb := hp.bd
  obtain ⟨h1, h2, h3⟩ := lagS_ok hp (a := 0) hx hn i hi
  have h := (lagS_ev hp 0 (rd xs i) (othersN xs i xs.length) (1, 1)).2
  have e := T_inv hp h2 h3
  have h' : T p (lagS p 0 xs i).2 = lin (T p (rd xs i)) (oth p xs i) := by
    unfold lagS oth; rw [h, T_one]; grind
  rw [h'] at e
  exact e
include hp in
theorem polTerm_ev {pts : List S97} (hx : PtsOk p pts) (hn : (xsOf pts).Nodup) (i : Nat) (hi : i < pts.length) (y : Fin p.toNat) :
    ev y (M p (polTerm p pts i)) = T p (rd_T97 pts (i : Int)).f1 * (lin y (oth p (xsOf pts) i) * dinv p (xsOf pts) i) := by
  have hl : (xsOf pts).length = pts.length := by simp [xsOf]
  obtain ⟨h1, h2, h3⟩ := polS_ev hp y (rd_T97 pts (i : Int)).f0 (othersN (xsOf pts) i pts.length) ([1], 1)
  obtain ⟨hr1, hr2, hlen, hD0⟩ := polS_ok hp hx hi hn
  have d := dinv_spec hp hx.xs hn i (by omega)
  have e := T_inv hp hr2 hD0
  unfold polTerm
  rw [ev_trimL, ev_scaleL hp, T_mod hp, T_mul]
  have e1 : ev y (M p (polS p pts i).1) = lin y (oth p (xsOf pts) i) := by
    unfold polS oth; rw [h1, hl]; simp only [M, List.map_cons, List.map_nil, ev, T_one]; grind
  have e2 : T p (polS p pts i).2 = lin (T p (rd (xsOf pts) i)) (oth p (xsOf pts) i) := by
    unfold polS oth; rw [h2, T_one, xsOf_rd pts i hi, hl]; grind
  rw [e1]
  rw [e2] at e
  generalize lin (T p (rd (xsOf pts) i)) (oth p (xsOf pts) i) = D at *
  have : T p (invp p (polS p pts i).2) = dinv p (xsOf pts) i := by grind
  rw [this]; grind
include hp in
theorem polSum_ev {pts : List S97} (hx : PtsOk p pts) (hn : (xsOf pts).Nodup) (y : Fin p.toNat) : ∀ n, n ≤ pts.length →
    ev y (M p (polSum p pts n)) = sumF (fun i => T p (rd_T97 pts (i : Int)).f1 * (lin y (oth p (xsOf pts) i) * dinv p (xsOf pts) i)) n
  | 0, _ => rfl
  | n + 1, h => by
    rw [polSum, ev_trimL, ev_addP hp, polSum_ev hx hn y n (by omega), polTerm_ev hp hx hn n (by omega) y]; rfl
include hp in
theorem polTerm_len {pts : List S97} (i : Nat) (hi : i < pts.length) : (polTerm p pts i).length ≤ pts.length := by
  obtain ⟨h1, h2, h3⟩ := polS_ev hp 0 (rd_T97 pts (i : Int)).f0 (othersN (xsOf pts) i pts.length) ([1], 1)
  rw [othersN_len, if_pos hi] at h3
  simp only [List.length_cons, List.length_nil] at h3
  refine Nat.le_trans (trimL_length _) ?_
  rw [List.length_map]
  unfold polS
  omega
include hp in
theorem polSum_len {pts : List S97} : ∀ n, n ≤ pts.length → (polSum p pts n).length ≤ pts.length
  | 0, _ => by simp [polSum]
  | n + 1, h => by
    have h1 := polSum_len (pts := pts) n (by omega)
    have h2 := polTerm_len hp (pts := pts) n (by omega)
    refine Nat.le_trans (trimL_length _) ?_
    rw [addP_length]; omega
include hp in
theorem polL_ev {pts : List S97} (hx : PtsOk p pts) (hn : (xsOf pts).Nodup) (y : Fin p.toNat) :
    ev y (M p (polL p pts)) = sumF (fun i => T p (rd_T97 pts (i : Int)).f1 * (lin y (oth p (xsOf pts) i) * dinv p (xsOf pts) i)) pts.length := by
  unfold polL; rw [ev_trimL, polSum_ev hp hx hn y pts.length (Nat.le_refl _)]
end

theorem polL_res {p : Int} (hp : Supp p) {pts : List S97} (hx : PtsOk p pts) : ∀ x ∈ polL p pts, Res p x := fun x h => (polSum_ok hp hx pts.length (Nat.le_refl _)).1 x (trimL_mem h)
theorem polL_len {p : Int} (hp : Supp p) {pts : List S97} : (polL p pts).length ≤ pts.length := by
  haveI := nz hp
  exact Nat.le_trans (trimL_length _) (polSum_len hp pts.length (Nat.le_refl _))
theorem polL_trim (p : Int) (pts : List S97) : trimL (polL p pts) = polL p pts := trimL_trimL _
/-- The polynomial passes through the points. -/
theorem polL_at {p : Int} (hp : Supp p) {pts : List S97} (hx : PtsOk p pts) (hn : (xsOf pts).Nodup) (j : Nat) (hj : j < pts.length) :
    evI p (rd_T97 pts (j : Int)).f0 (polL p pts) = (rd_T97 pts (j : Int)).f1 := by
  haveI := nz hp
  have hl : (xsOf pts).length = pts.length := by simp [xsOf]
  refine T_inj hp (evI_res hp _ _) (hx.at_ j hj).2 ?_
  rw [ev_evI hp, polL_ev hp hx hn, sumF_one (j := j) _ (fun i hi hij => ?_), if_pos hj]
  · have d := dinv_spec hp hx.xs hn j (by omega)
    rw [xsOf_rd pts j hj] at d
    grind
  · have : lin (T p (rd_T97 pts (j : Int)).f0) (oth p (xsOf pts) i) = 0 := by
      refine lin_zero ?_
      rw [← xsOf_rd pts j hj]
      exact List.mem_map_of_mem (othersN_has _ _ _ (fun e => hij e.symm) _ (by omega))
    rw [this]; grind
/-- What is known of a polynomial through the points. -/
theorem polL_char {p : Int} (hp : Supp p) {pts : List S97} (hx : PtsOk p pts) (hn : (xsOf pts).Nodup) {g : List Int} (hg : ∀ x ∈ g, Res p x) (lg : g.length ≤ pts.length)
    (h : ∀ j, j < pts.length → evI p (rd_T97 pts (j : Int)).f0 g = (rd_T97 pts (j : Int)).f1) : polL p pts = trimL g := by
  have hl : (xsOf pts).length = pts.length := by simp [xsOf]
  rw [← polL_trim]
  refine uniq hp hx.xs hn (polL_res hp hx) hg (by rw [hl]; exact polL_len hp) (by omega) (fun x hxx => ?_)
  obtain ⟨j, hj, rfl⟩ := List.getElem_of_mem hxx
  have e := xsOf_rd pts j (by omega)
  rw [rd_nat, Hw.getD_in _ _ hj] at e
  rw [e, polL_at hp hx hn j (by omega), h j (by omega)]
end Go.Proofs.Ytejeelpnmdfibaa.E
end
section
/- Printed by a program of this seat (the kit's printer, with the functions that were proved by hand given to it). What stands here: the functions that the statements reach, as plain functions, and that the Go code computes them. -/
namespace Go.Proofs.Ytejeelpnmdfibaa.Pr
open Go.RowKit Go.Proofs.YtejeelpnmdfibaaW.PrintWords Go.Proofs.YtejeelpnmdfibaaW.PrintLast Go.Proofs.YtejeelpnmdfibaaW.PrintMore
attribute [local go_sem] max2_int min2_int max_two min_two max_three min_three max_four min_four   -- for this text's walks alone
set_option linter.unusedVariables false
set_option linter.unusedSimpArgs false

open Go.Proofs.Ytejeelpnmdfibaa.Hw
/-! ### privityref01_Add: function 17 -/
/-! ### privityref01_Mul: function 31 -/
/-! ### privityref10_Value: function 46 -/
/-! ### privityref10_Row: function 19 -/
end Go.Proofs.Ytejeelpnmdfibaa.Pr
end
section
/- Printed by a program of this seat (the kit's printer, with the functions that were proved by hand given to it). What stands here: the functions that the statements reach, as plain functions, and that the Go code computes them. -/
namespace Go.Proofs.Ytejeelpnmdfibaa.Pr
open Go.RowKit Go.Proofs.YtejeelpnmdfibaaW.PrintWords Go.Proofs.YtejeelpnmdfibaaW.PrintLast Go.Proofs.YtejeelpnmdfibaaW.PrintMore
attribute [local go_sem] max2_int min2_int max_two min_two max_three min_three max_four min_four   -- for this text's walks alone
set_option linter.unusedVariables false
set_option linter.unusedSimpArgs false

open Go.Proofs.Ytejeelpnmdfibaa.Hw
/-! ### privityref12_In: function 47 -/
/-! ### privityref12_ExtendCoalition: function 21 -/
/-! ### privityref01_Sub: function 22 -/
end Go.Proofs.Ytejeelpnmdfibaa.Pr
end
section
/- Printed by a program of this seat (the kit's printer, with the functions that were proved by hand given to it). What stands here: the functions that the statements reach, as plain functions, and that the Go code computes them. -/
namespace Go.Proofs.Ytejeelpnmdfibaa.Pr
open Go.RowKit Go.Proofs.YtejeelpnmdfibaaW.PrintWords Go.Proofs.YtejeelpnmdfibaaW.PrintLast Go.Proofs.YtejeelpnmdfibaaW.PrintMore
attribute [local go_sem] max2_int min2_int max_two min_two max_three min_three max_four min_four   -- for this text's walks alone
set_option linter.unusedVariables false
set_option linter.unusedSimpArgs false

open Go.Proofs.Ytejeelpnmdfibaa.Hw
/-! ### privityref01_Pow: function 100 -/
/-! ### privityref01_Inverse: function 76 -/
/-! ### privityref04_Trim: function 89 -/
end Go.Proofs.Ytejeelpnmdfibaa.Pr
end
section
/- Printed by a program of this seat (the kit's printer, with the functions that were proved by hand given to it). What stands here: the functions that the statements reach, as plain functions, and that the Go code computes them. -/
namespace Go.Proofs.Ytejeelpnmdfibaa.Pr
open Go.RowKit Go.Proofs.YtejeelpnmdfibaaW.PrintWords Go.Proofs.YtejeelpnmdfibaaW.PrintLast Go.Proofs.YtejeelpnmdfibaaW.PrintMore
attribute [local go_sem] max2_int min2_int max_two min_two max_three min_three max_four min_four   -- for this text's walks alone
set_option linter.unusedVariables false
set_option linter.unusedSimpArgs false

open Go.Proofs.Ytejeelpnmdfibaa.Hw
/-! ### privityref01_Neg: function 78 -/
end Go.Proofs.Ytejeelpnmdfibaa.Pr
end
section
/-
  The reference of layer 1: what its printed functions answer.
-/
namespace Go.Proofs.Ytejeelpnmdfibaa.E
open Go.RowKit Go.Proofs.Ytejeelpnmdfibaa.Pr Go.Proofs.Ytejeelpnmdfibaa.Hw Go.Proofs.YtejeelpnmdfibaaW.PrintWords Go.Proofs.YtejeelpnmdfibaaW.PrintLast Go.Proofs.YtejeelpnmdfibaaW.PrintMore
set_option linter.unusedVariables false
set_option linter.unusedSimpArgs false

theorem wcap {n : Int} (h : 0 ≤ n) (h2 : n < 9223372036854775808) : wrap64 n = n := by unfold wrap64; omega
theorem wnat {n : Nat} (h : n < 1099511627776) : wrap64 ((n : Int) + 1) = ((n + 1 : Nat) : Int) := by rw [wcap (by omega) (by omega)]; omega
/-- From the end back to the start. -/
theorem up {Q : Nat → Prop} {n : Nat} (hn : Q n) (hs : ∀ i, i < n → Q (i + 1) → Q i) : Q 0 := by
  have : ∀ d, d ≤ n → Q (n - d) := by
    intro d
    induction d with
    | zero => intro _; exact hn
    | succ d ih =>
      intro h
      have h1 := ih (by omega)
      refine hs (n - (d + 1)) (by omega) ?_
      rwa [show n - (d + 1) + 1 = n - d from by omega]
  have := this n (Nat.le_refl _)
  rwa [Nat.sub_self] at this
theorem exponent_eq (p : Int) : privityref01_Exponent.f 10 p = if p = 31 then some 5 else if p = 127 then some 7 else if p = 8191 then some 13 else if p = 131071 then some 17 else if p = 524287 then some 19 else if p = 2147483647 then some 31 else if p = 2305843009213693951 then some 61 else some 0 := by kernel_rfl
theorem supported_ev (p : Int) : Ev (fun k => privityref01_Supported.f k p) (supB p) := by
  refine Ev.of (fun k => privityref01_Supported.mono _ _) (k := 10) ?_
  show (privityref01_Exponent.f 10 p).bind _ = _
  rw [exponent_eq]
  unfold supB
  by_cases h1 : p = 31
  · subst h1; rfl
  by_cases h2 : p = 127
  · subst h2; rfl
  by_cases h3 : p = 8191
  · subst h3; rfl
  by_cases h4 : p = 131071
  · subst h4; rfl
  by_cases h5 : p = 524287
  · subst h5; rfl
  by_cases h6 : p = 2147483647
  · subst h6; rfl
  by_cases h7 : p = 2305843009213693951
  · subst h7; rfl
  rw [if_neg h1, if_neg h2, if_neg h3, if_neg h4, if_neg h5, if_neg h6, if_neg h7]
  simp [h1, h2, h3, h4, h5, h6, h7]
theorem tmod_pos {a p : Int} (h : 0 ≤ a) : Int.tmod a p = a % p := Int.tmod_eq_emod_of_nonneg h
end Go.Proofs.Ytejeelpnmdfibaa.E
end
section
/-
  Guards, sums, and the hand-proved functions' answers, for the statements.
-/
namespace Go.Proofs.Ytejeelpnmdfibaa.E
open Go.RowKit Go.Proofs.Ytejeelpnmdfibaa.Pr Go.Proofs.Ytejeelpnmdfibaa.Hw Go.Proofs.Ytejeelpnmdfibaa.Pl Go.Proofs.YtejeelpnmdfibaaW.PrintWords Go.Proofs.YtejeelpnmdfibaaW.PrintLast Go.Proofs.YtejeelpnmdfibaaW.PrintMore
set_option linter.unusedVariables false
set_option linter.unusedSimpArgs false

theorem wf64 {x : Int} (h : (Lit.int .u64 x).wf = true) : 0 ≤ x ∧ x < 18446744073709551616 := by
  have h1 : IntKind.u64.min ≤ x ∧ x ≤ IntKind.u64.max := by simpa [Lit.wf] using h
  have e1 : IntKind.u64.min = 0 := by decide
  have e2 : IntKind.u64.max = 18446744073709551615 := by decide
  omega
/-- A check, and both ways on. -/
theorem ev_if {α : Type} {A : Nat → Option Bool} {b : Bool} (hA : Ev A b) {X Y : Nat → Option α} {r : α} (hx : b = true → Ev X r) (hy : b = false → Ev Y r) : Ev (fun k => (A k).bind fun t => if t = true then X k else Y k) r := by
  refine Ev.bind (f := fun k t => if t = true then X k else Y k) hA ?_
  cases b with
  | true => exact (hx rfl).congr fun k => if_pos rfl
  | false => exact (hy rfl).congr fun k => if_neg (by simp)
theorem ev_ite {α : Type} {c : Prop} [Decidable c] {X Y : Nat → Option α} {r : α} (hx : c → Ev X r) (hy : ¬ c → Ev Y r) : Ev (fun k => if c then X k else Y k) r := by
  by_cases h : c
  · exact (hx h).congr fun k => if_pos h
  · exact (hy h).congr fun k => if_neg h
/-- A check whose negation is handed on. -/
theorem ev_now_bind {α β : Type} {x : Option α} {a : α} (hx : x = some a) {f : Nat → α → Option β} {r : β} (h : Ev (fun k => f k a) r) : Ev (fun k => x.bind (f k)) r := by subst hx; exact h
theorem ipol_eq {p : Int} (hp : Supp p) {pts : List S97} (hx : PtsOk p pts) (hl : pts.length ≤ 12) : interpolate_Polynomial.f p pts = some (if (xsOf pts).Nodup then polL p pts else [], if (xsOf pts).Nodup then 0 else 1) := by
  unfold interpolate_Polynomial.f
  rw [if_pos (supB_iff.2 hp), if_pos (ptsB_iff.2 hx), if_pos hl]
theorem padd_eq {p : Int} (hp : Supp p) {a b : List Int} (ha : ∀ x ∈ a, Res p x) (hb : ∀ x ∈ b, Res p x) (la : a.length ≤ 1000000) (lb : b.length ≤ 1000000) : poly_Add.f p a b = some (trimL (addP p a b)) := by
  unfold poly_Add.f
  rw [if_pos (supB_iff.2 hp), if_pos (ressB_iff.2 ha), if_pos (ressB_iff.2 hb), if_pos la, if_pos lb]
end Go.Proofs.Ytejeelpnmdfibaa.E
end
section
/-
  Coalitions: their extension, the honest parties, the vanishing polynomial; plainly.
-/
namespace Go.Proofs.Ytejeelpnmdfibaa.E
open Go.RowKit Go.Proofs.Ytejeelpnmdfibaa.Pr Go.Proofs.Ytejeelpnmdfibaa.Hw Go.Proofs.Ytejeelpnmdfibaa.Pl Go.Proofs.YtejeelpnmdfibaaW.PrintWords Go.Proofs.YtejeelpnmdfibaaW.PrintLast Go.Proofs.YtejeelpnmdfibaaW.PrintMore
set_option linter.unusedVariables false
set_option linter.unusedSimpArgs false

theorem vsub_len : ∀ (l m : List Int), l.Nodup → (∀ x ∈ l, x ∈ m) → l.length ≤ m.length
  | [], m, _, _ => Nat.zero_le _
  | a :: l, m, hn, h => by
    have hn' := List.nodup_cons.1 hn
    have ha := h a (by simp)
    have h1 := vsub_len l (m.erase a) hn'.2 (fun x hx => (List.mem_erase_of_ne (fun e => hn'.1 (by rw [← e]; exact hx))).2 (h x (List.mem_cons_of_mem _ hx)))
    rw [List.length_erase_of_mem ha] at h1
    have := List.length_pos_of_mem ha
    simp only [List.length_cons]; omega
/-- The numbers k, k + 1, .., n of them. -/
def runL : Nat → Int → List Int
  | 0, _ => []
  | n + 1, k => k :: runL n (k + 1)
theorem runL_mem : ∀ (n : Nat) (k x : Int), x ∈ runL n k ↔ k ≤ x ∧ x < k + n
  | 0, k, x => by simp [runL]
  | n + 1, k, x => by rw [runL, List.mem_cons, runL_mem n (k + 1) x]; omega
theorem runL_nodup : ∀ (n : Nat) (k : Int), (runL n k).Nodup
  | 0, k => List.nodup_nil
  | n + 1, k => List.nodup_cons.2 ⟨fun h => by rw [runL_mem] at h; omega, runL_nodup n (k + 1)⟩
theorem runL_length : ∀ (n : Nat) (k : Int), (runL n k).length = n
  | 0, k => rfl
  | n + 1, k => by rw [runL, List.length_cons, runL_length n]
/-- The coalition, extended by the least other numbers. -/
def extL (bad : List Int) : Nat → Int → Int → List Int
  | 0, _, _ => []
  | n + 1, k, lack => if k ∈ bad then k :: extL bad n (k + 1) lack else if lack > 0 then k :: extL bad n (k + 1) (lack - 1) else extL bad n (k + 1) lack
def honL (bad : List Int) (n : Nat) (k : Int) : List Int := (runL n k).filter fun x => decide (x ∉ bad)
theorem extL_range {bad : List Int} : ∀ (n : Nat) (k lack x : Int), x ∈ extL bad n k lack → k ≤ x ∧ x < k + n
  | 0, k, lack, x, h => by cases h
  | n + 1, k, lack, x, h => by
    rw [extL] at h
    split at h
    · rcases List.mem_cons.1 h with h | h
      · omega
      · have := extL_range n _ _ _ h; omega
    · split at h
      · rcases List.mem_cons.1 h with h | h
        · omega
        · have := extL_range n _ _ _ h; omega
      · have := extL_range n _ _ _ h; omega
/-- The list is the part of the run that it holds. -/
theorem extL_filter {bad : List Int} : ∀ (n : Nat) (k lack : Int) (P : Int → Bool), (∀ x, k ≤ x → x < k + n → (P x = true ↔ x ∈ extL bad n k lack)) → extL bad n k lack = (runL n k).filter P
  | 0, k, lack, P, h => rfl
  | n + 1, k, lack, P, h => by
    have hk := h k (by omega) (by omega)
    have hno : ∀ lack, k ∉ extL bad n (k + 1) lack := fun lack hx => by have := extL_range n _ _ _ hx; omega
    rw [extL] at h hk ⊢
    rw [runL]
    split
    · rename_i hb
      rw [if_pos hb] at hk
      rw [List.filter_cons_of_pos (hk.2 (by simp))]
      refine congrArg _ (extL_filter n (k + 1) lack P fun x h1 h2 => ?_)
      have := h x (by omega) (by omega)
      rw [if_pos hb, List.mem_cons] at this
      rw [this]
      exact ⟨fun h => h.resolve_left (by omega), Or.inr⟩
    · rename_i hb
      split
      · rename_i hl
        rw [if_neg hb, if_pos hl] at hk
        rw [List.filter_cons_of_pos (hk.2 (by simp))]
        refine congrArg _ (extL_filter n (k + 1) (lack - 1) P fun x h1 h2 => ?_)
        have := h x (by omega) (by omega)
        rw [if_neg hb, if_pos hl, List.mem_cons] at this
        rw [this]
        exact ⟨fun h => h.resolve_left (by omega), Or.inr⟩
      · rename_i hl
        rw [if_neg hb, if_neg hl] at hk
        rw [List.filter_cons_of_neg (fun h => hno _ (hk.1 h))]
        refine extL_filter n (k + 1) lack P fun x h1 h2 => ?_
        have := h x (by omega) (by omega)
        rw [if_neg hb, if_neg hl] at this
        exact this
theorem extL_nodup (bad : List Int) (n : Nat) (k lack : Int) : (extL bad n k lack).Nodup := by
  rw [extL_filter n k lack (fun x => decide (x ∈ extL bad n k lack)) (fun x _ _ => by simp)]
  exact (runL_nodup n k).filter _
theorem extL_length {bad : List Int} : ∀ (n : Nat) (k lack : Int), 0 ≤ lack → lack ≤ (honL bad n k).length → ((extL bad n k lack).length : Int) = (((runL n k).filter fun x => decide (x ∈ bad)).length : Int) + lack
  | 0, k, lack, h0, h1 => by simp [extL, runL, honL] at *; omega
  | n + 1, k, lack, h0, h1 => by
    rw [extL]
    unfold honL at h1
    rw [runL] at h1 ⊢
    by_cases hb : k ∈ bad
    · rw [if_pos hb, List.filter_cons_of_pos (by simpa using hb), List.length_cons, List.length_cons]
      rw [List.filter_cons_of_neg (by simpa using hb)] at h1
      have := extL_length n (k + 1) lack h0 h1
      omega
    · rw [if_neg hb, List.filter_cons_of_neg (by simpa using hb)]
      rw [List.filter_cons_of_pos (by simpa using hb), List.length_cons] at h1
      by_cases hl : lack > 0
      · rw [if_pos hl, List.length_cons]
        have := extL_length (bad := bad) n (k + 1) (lack - 1) (by omega) (by unfold honL; omega)
        omega
      · rw [if_neg hl]
        exact extL_length n (k + 1) lack h0 (by omega)
theorem filter_split (bad : List Int) : ∀ (l : List Int), (l.filter fun x => decide (x ∈ bad)).length + (l.filter fun x => decide (x ∉ bad)).length = l.length
  | [] => rfl
  | a :: l => by
    have ih := filter_split bad l
    by_cases h : a ∈ bad
    · rw [List.filter_cons_of_pos (by simpa using h), List.filter_cons_of_neg (by simpa using h)]; simp only [List.length_cons]; omega
    · rw [List.filter_cons_of_neg (by simpa using h), List.filter_cons_of_pos (by simpa using h)]; simp only [List.length_cons]; omega
theorem runL_count {bad : List Int} (hn : bad.Nodup) {n : Nat} {k : Int} (hr : ∀ x ∈ bad, k ≤ x ∧ x < k + n) : ((runL n k).filter fun x => decide (x ∈ bad)).length = bad.length := by
  refine Nat.le_antisymm (vsub_len _ _ ((runL_nodup n k).filter _) fun x hx => ?_) (vsub_len _ _ hn fun x hx => ?_)
  · exact of_decide_eq_true (List.mem_filter.1 hx).2
  · exact List.mem_filter.2 ⟨(runL_mem n k x).2 (hr x hx), decide_eq_true hx⟩
/-- A valid coalition. -/
structure CoaB (N T : Int) (bad : List Int) : Prop where
  n0 : 4 ≤ N
  n1 : N ≤ 13
  t0 : 1 ≤ T
  t1 : 3 * T < N
  len : (bad.length : Int) ≤ T
  nd : bad.Nodup
  rng : ∀ x ∈ bad, 1 ≤ x ∧ x ≤ N
def extB (N T : Int) (bad : List Int) : List Int := extL bad N.toNat 1 (T - bad.length)
section
variable {N T : Int} {bad : List Int} (h : CoaB N T bad)
include h
theorem CoaB.rng' : ∀ x ∈ bad, (1 : Int) ≤ x ∧ x < 1 + (N.toNat : Nat) := fun x hx => by have := h.rng x hx; omega
theorem CoaB.hon_len : ((honL bad N.toNat 1).length : Int) = N - bad.length := by
  have h1 := filter_split bad (runL N.toNat 1)
  rw [runL_count h.nd h.rng', runL_length] at h1
  have := h.n0
  unfold honL; omega
theorem extB_length : ((extB N T bad).length : Int) = T := by
  have h1 := h.hon_len
  have h2 := h.len
  have h3 := h.t1
  have h4 := h.t0
  unfold extB
  rw [extL_length N.toNat 1 (T - bad.length) (by omega) (by omega), runL_count h.nd h.rng']; omega
theorem extB_range : ∀ x ∈ extB N T bad, 1 ≤ x ∧ x ≤ N := fun x hx => by
  have := extL_range _ _ _ _ hx
  have := h.n0
  omega
theorem extB_nodup : (extB N T bad).Nodup := by
  have _h := h.n0
  exact extL_nodup _ _ _ _
end

/-- The points of the vanishing polynomial. -/
def vanP (l : List Int) : List S97 := ⟨0, 1⟩ :: l.map fun k => ⟨k, 0⟩
theorem vanP_xs (l : List Int) : xsOf (vanP l) = 0 :: l := by
  unfold xsOf vanP
  rw [List.map_cons, List.map_map]
  exact congrArg _ (List.map_id _)
theorem vanP_length (l : List Int) : (vanP l).length = l.length + 1 := by simp [vanP]
/-- Points that are distinct, nonzero residues. -/
structure VanOk (p : Int) (l : List Int) : Prop where
  res : ∀ x ∈ l, Res p x
  nz : ∀ x ∈ l, x ≠ 0
  nd : l.Nodup
section
variable {p : Int} (hp : Supp p) {l : List Int} (h : VanOk p l)
include hp h
theorem vanP_ok : PtsOk p (vanP l) := by
  have hb := hp.bd
  intro y hy
  rcases List.mem_cons.1 hy with rfl | hy
  · exact ⟨⟨Int.le_refl 0, by show (0 : Int) < p; omega⟩, ⟨by show (0 : Int) ≤ 1; omega, by show (1 : Int) < p; omega⟩⟩
  · obtain ⟨x, hx, rfl⟩ := List.mem_map.1 hy
    exact ⟨h.res x hx, ⟨Int.le_refl 0, by show (0 : Int) < p; omega⟩⟩
theorem vanP_nd : (xsOf (vanP l)).Nodup := by
  have _h := hp.bd
  rw [vanP_xs]
  exact List.nodup_cons.2 ⟨fun hx => h.nz 0 hx rfl, h.nd⟩
theorem van_at (y : S97) (hy : y ∈ vanP l) : evI p y.f0 (polL p (vanP l)) = y.f1 := by
  obtain ⟨j, hj, rfl⟩ := List.getElem_of_mem hy
  have h1 := polL_at hp (vanP_ok hp h) (vanP_nd hp h) j hj
  rw [rdT_nat _ _ hj] at h1
  exact h1
theorem van_zero : evI p 0 (polL p (vanP l)) = 1 := van_at hp h ⟨0, 1⟩ (by simp [vanP])
theorem van_root (x : Int) (hx : x ∈ l) : evI p x (polL p (vanP l)) = 0 := van_at hp h ⟨x, 0⟩ (List.mem_cons_of_mem _ (List.mem_map.2 ⟨x, hx, rfl⟩))
theorem van_res : ∀ x ∈ polL p (vanP l), Res p x := polL_res hp (vanP_ok hp h)
theorem van_uniq {g : List Int} (hg : ∀ x ∈ g, Res p x) (lg : g.length ≤ l.length + 1) (h0 : evI p 0 g = 1) (h1 : ∀ x ∈ l, evI p x g = 0) : polL p (vanP l) = trimL g := by
  refine polL_char hp (vanP_ok hp h) (vanP_nd hp h) hg (by rw [vanP_length]; exact lg) (fun j hj => ?_)
  rw [rdT_nat _ _ hj]
  have hm : (vanP l)[j] ∈ vanP l := List.getElem_mem _
  generalize (vanP l)[j] = y at hm
  rcases List.mem_cons.1 hm with rfl | hm
  · exact h0
  · obtain ⟨x, hx, rfl⟩ := List.mem_map.1 hm
    exact h1 x hx
/-- A polynomial of at most as many coefficients as roots is zero. -/
theorem van_len : (polL p (vanP l)).length = l.length + 1 := by
  have h1 := polL_len hp (pts := vanP l)
  rw [vanP_length] at h1
  refine Nat.le_antisymm h1 (Nat.lt_of_not_le fun h2 => ?_)
  have h3 := uniq hp h.res h.nd (van_res hp h) (g := []) (fun x hx => by cases hx) h2 (Nat.zero_le _) (fun x hx => by rw [van_root hp h x hx]; rfl)
  rw [polL_trim] at h3
  have h4 := van_zero hp h
  rw [h3] at h4
  have : trimL ([] : List Int) = [] := rfl
  rw [this] at h4
  simp [evI] at h4
theorem van_only {x : Int} (hx : Res p x) (h0 : x ≠ 0) (hz : evI p x (polL p (vanP l)) = 0) : x ∈ l := by
  refine Classical.byContradiction fun hn => ?_
  have hv : VanOk p (x :: l) := ⟨fun y hy => by
    rcases List.mem_cons.1 hy with rfl | hy
    · exact hx
    · exact h.res y hy, fun y hy => by
    rcases List.mem_cons.1 hy with rfl | hy
    · exact h0
    · exact h.nz y hy, List.nodup_cons.2 ⟨hn, h.nd⟩⟩
  have h1 := van_len hp hv
  have h2 := van_uniq hp hv (van_res hp h) (by rw [van_len hp h, List.length_cons]; omega) (van_zero hp h) (fun y hy => by
    rcases List.mem_cons.1 hy with rfl | hy
    · exact hz
    · exact van_root hp h y hy)
  rw [polL_trim] at h2
  rw [h2, van_len hp h, List.length_cons] at h1
  omega
theorem van_last : (polL p (vanP l)).getD l.length 0 ≠ 0 := by
  have h1 := van_len hp h
  have h2 := trimL_last (polL p (vanP l)) (by rw [polL_trim]; intro e; rw [e] at h1; simp at h1)
  rw [polL_trim, h1, Nat.add_sub_cancel] at h2
  exact h2
end
end Go.Proofs.Ytejeelpnmdfibaa.E
end
section
/-
  members and ExtendCoalition of package params, proved by hand.
-/
namespace Go.Proofs.Ytejeelpnmdfibaa.Hw
open Go.RowKit Go.Proofs.Ytejeelpnmdfibaa.Pr Go.Proofs.YtejeelpnmdfibaaW.PrintWords Go.Proofs.YtejeelpnmdfibaaW.PrintLast Go.Proofs.YtejeelpnmdfibaaW.PrintMore Go.Proofs.Ytejeelpnmdfibaa.E
set_option linter.unusedVariables false
set_option linter.unusedSimpArgs false

section
variable {P : Program} {ops : Array Oper} {Q : Exit → Act → World → Prop}
/-- A whole array into its block. -/
theorem st_row {rest : List Oper} {op : Oper} {a : Act} {w : World} (hgd : op.guard = none) (ty : TypeId) (x y : Operand) (ho : op.op = .store ty x y) (g : Nat) (cells : Array Value) (hx : a.eval x = .pointer (some ⟨g, 0, none⟩)) (hy : a.eval y = .agg cells)
    (t : TypeId) (old : Array Value) (hg : w.heap[g]? = some (.cells old t (0, 0))) (hi : (P.info? ty).map (·.size) = some cells.size) (hold : old.size = cells.size) (h1 : cells.all (·.oneCell') = true)
    (h : ∀ w', w'.heap[g]? = some (.cells cells t (0, 0)) → (∀ B w0, B ≤ g → Below B w0 w → Below B w0 w') → (∀ b o, b ≠ g → w.heap[b]? = some o → w'.heap[b]? = some o) → wpList P ops Q rest (a.put op.dst undef) w') : wpList P ops Q (op :: rest) a w :=
  wpList_plain hgd fun _ hK => wp_store_row ty x y ho g cells hx hy t old hg hi hold h1 (hK _ _ (h _ (setRow_heap _ g _ _ t _ hg) (fun B w0 hB hb => Go.below_setRow hb hB _) (fun b o hb h => (setRow_other w g b cells (by omega)).trans h)))
/-- A whole array out of its block. -/
theorem ld_row {rest : List Oper} {op : Oper} {a : Act} {w : World} (hgd : op.guard = none) (ty : TypeId) (x : Operand) (ho : op.op = .load ty x) (g : Nat) (hx : a.eval x = .pointer (some ⟨g, 0, none⟩)) (t : TypeId) (cs : Array Value) (fr : Nat × Nat) (d : TypeDesc)
    (hg : w.heap[g]? = some (.cells cs t fr)) (hu : P.underlying ty = some d) (hd : (match d with | .struct _ | .array _ _ => true | _ => false) = true) (hi : (P.info? ty).map (·.size) = some cs.size)
    (h : wpList P ops Q rest (a.put op.dst (.agg cs)) w) : wpList P ops Q (op :: rest) a w :=
  wpList_plain hgd fun _ hK => wp_load_row ty x ho g hx t cs fr d hg hu hd hi (hK _ _ h)
theorem results_c {fn : Func} {p : Tmp} {ty : TypeId} (h : fn.results = #[.cell p ty]) (tmps : Array Value) (w : World) (g : Nat) (t : TypeId) (cs : Array Value) (fr : Nat × Nat) (d : TypeDesc)
    (hp : tmps.getD p undef = .pointer (some ⟨g, 0, none⟩)) (hg : w.heap[g]? = some (.cells cs t fr))
    (hu : P.underlying ty = some d) (hd : (match d with | .struct _ | .array _ _ => true | _ => false) = true) (hi : (P.info? ty).map (·.size) = some cs.size) :
    (results fn tmps).run P w = .ok (.agg cs) w := by
  have hp' : tmps[p]?.getD undef = .pointer (some ⟨g, 0, none⟩) := by simpa using hp
  simp [results, h, hp', asAddr, run_loadVar_row w g t ty cs fr d hg hu hd hi]
end

/-- Which of the numbers 0 to 13 are in the list. -/
def markL (l : List Int) : List Bool := (List.range 14).map fun (i : Nat) => decide ((i : Int) ∈ l)
def boolC (m : List Bool) : List Value := m.map Value.bool
theorem markL_length (l : List Int) : (markL l).length = 14 := by simp [markL]
theorem boolC_length (m : List Bool) : (boolC m).length = m.length := by simp [boolC]
theorem boolC_one (m : List Bool) : (boolC m).toArray.all (·.oneCell') = true := by
  simp only [boolC, List.all_toArray, List.all_map, List.all_eq_true]
  intro x _; rfl
theorem markL_get {l : List Int} {i : Nat} (h : i < 14) : (markL l)[i]? = some (decide ((i : Int) ∈ l)) := by unfold markL; rw [List.getElem?_map, List.getElem?_range h]; rfl
theorem boolC_get {m : List Bool} {i : Nat} {b : Bool} (h : m[i]? = some b) : (boolC m)[i]? = some (.bool b) := by unfold boolC; rw [List.getElem?_map, h]; rfl
theorem boolC_set (m : List Bool) (i : Nat) (b : Bool) : (boolC m).set i (.bool b) = boolC (m.set i b) := by unfold boolC; rw [List.map_set]
theorem markL_more (l : List Int) {x : Int} (h0 : 0 ≤ x) (h1 : x < 14) : (markL l).set x.toNat true = markL (l ++ [x]) := by
  refine List.ext_getElem? fun i => ?_
  by_cases hi : i < 14
  · rw [markL_get hi]
    by_cases e : i = x.toNat
    · subst e
      rw [List.getElem?_set_self (by rw [markL_length]; exact hi), show ((x.toNat : Nat) : Int) = x from by omega]
      simp
    · rw [List.getElem?_set_ne (Ne.symm e), markL_get hi]
      have : (i : Int) ≠ x := by omega
      simp [this]
  · rw [List.getElem?_eq_none (by rw [List.length_set, markL_length]; omega), List.getElem?_eq_none (by rw [markL_length]; omega)]
theorem infoA : (Try.prog.info? 106).map (·.size) = some 14 := by kernel_rfl
set_option maxHeartbeats 2000000 in
set_option maxRecDepth 100000 in
theorem members_walk (A : Option Addr) (c : Nat) (l : List Int) (w : World) (hr : Kd.C (Kd.int .i64) w A l.length l) (hc : l.length ≤ c) (hl : l.length ≤ 1000) (hx : ∀ i : Nat, i < l.length → 0 ≤ rd l (i : Int) ∧ rd l (i : Int) < 14) :
    Calls Try.prog 108 #[.slice A l.length c] w fun e w' => e = .returned (.agg (boolC (markL l)).toArray) ∧ Below w.heap.size w w' := by
  have HR := Aside0.mk hr
  have HX := Aside0.mk hx
  have hz := (zero_of_info (P := Try.prog) (t := 106) (v := .agg (boolC (markL [])).toArray) (n := 14) (by kernel_rfl)).1
  have hu := Try.underlying106
  clear hr hx
  go_enter Try.func108, Try.ntmps108
  go_wp2
  obtain ⟨g, hg⟩ : ∃ y, y = w.heap.size := ⟨_, rfl⟩
  rw [← hg]
  have HG := Aside0.mk hg
  clear hg hz
  go_loopg [7] l.length (fun kq v7 w' => ∃ i : Nat, v7 = .int .i64 (i : Int) ∧ Aside0 (kq + i = l.length) ∧ Aside0 (w'.heap[g]? = some (.cells (boolC (markL (l.take i))).toArray 106 (0, 0))) ∧ Aside0 (Below w.heap.size w w'))
  case atStart => exact ⟨0, rfl, ⟨rfl⟩, ⟨by rw [HG.out, List.take_zero]; exact blk_new w _⟩, ⟨below_alloc (Below.refl _ _) _⟩⟩
  case round =>
    obtain ⟨i, rfl, HK, HM, HB⟩ := hrel
    by_cases hlt : i < l.length
    · have q1 : decide ((i : Int) < (l.length : Int)) = true := decide_eq_true (by omega)
      have q2 : decide (i < l.length) = true := decide_eq_true hlt
      obtain ⟨ad, e, hy⟩ := Kd.at_int (Kd.C_below HR.out HB.out) (i : Int) (by omega) (by omega)
      cases e
      rw [Int.toNat_natCast] at hy
      obtain ⟨x0, x1⟩ := HX.out i hlt
      have hsn : l.take (i + 1) = l.take i ++ [rd l (i : Int)] := by
        rw [List.take_add_one, List.getElem?_eq_getElem hlt]
        have : rd l (i : Int) = l[i] := by unfold rd; rw [Int.toNat_natCast, List.getD_eq_getElem?_getD, List.getElem?_eq_getElem hlt]; rfl
        rw [this]; rfl
      obtain ⟨x, hxe⟩ : ∃ y, y = rd l (i : Int) := ⟨_, rfl⟩
      rw [← hxe] at hy x0 x1 hsn
      have p1 : ((0 : Int) ≤ (i : Int)) = True := eq_true (by omega)
      have p2 : ((i : Int) < (l.length : Int)) = True := eq_true (by omega)
      have p3 : ((0 : Int) ≤ x) = True := eq_true x0
      have p4 : (x < 14) = True := eq_true x1
      have c1 := blk_cell HM.out x.toNat
      rw [List.getElem?_toArray, boolC_get (markL_get (by omega))] at c1
      have f1 := blk_frozen HM.out x.toNat
      have HSN := Aside0.mk hsn
      have HX0 := Aside0.mk (And.intro x0 x1)
      clear hsn hxe x0 x1
      go_wp2
      go_roundg (l.length - (i + 1))
      case measure => have := HK.out; omega
      case rel =>
        refine ⟨i + 1, by go_num, ⟨by omega⟩, ⟨blk_put HM.out x.toNat _ ?_⟩, ⟨Below.setCell HB.out (p := ⟨g, x.toNat, none⟩) (by rw [HG.out]; exact Nat.le_refl _) _⟩⟩
        rw [List.setIfInBounds_toArray, boolC_set, markL_more _ HX0.out.1 HX0.out.2, ← HSN.out]
    · have q1 : decide ((i : Int) < (l.length : Int)) = false := decide_eq_false (by omega)
      have q2 : decide (i < l.length) = false := decide_eq_false hlt
      have hil : l.take i = l := List.take_of_length_le (by omega)
      have hm := HM.out
      rw [hil] at hm
      have hsz : (Try.prog.info? 106).map (·.size) = some (boolC (markL l)).toArray.size := by rw [infoA, List.size_toArray, boolC_length, markL_length]
      have HM2 := Aside0.mk hm
      have HSZ := Aside0.mk hsz
      clear hm hil hsz
      go_wp2_with (first
        | ((with_reducible refine gate_dst (N := 14) rfl ?_); refine ld_row rfl 106 (.tmp 2) rfl g (by rfl) 106 (boolC (markL l)).toArray (0, 0) _ HM2.out Try.underlying106 rfl HSZ.out ?_)
        | ((with_reducible refine gate_store (p := 2) rfl ?_); refine st_row rfl 106 (.tmp 2) (.tmp 14) rfl g (boolC (markL l)).toArray (by rfl) (by rfl) 106 (boolC (markL l)).toArray HM2.out HSZ.out rfl (boolC_one _) ?_; intro w6 hb6 hbw hbo; have HB6 := Aside0.mk (hbw _ _ (by rw [HG.out]; exact Nat.le_refl _) HB.out); have HM6 := Aside0.mk hb6; clear hb6 hbw hbo))
      (try simp only [Exit.inBlock, Exit.then])
      refine bodyPost_ret (results_c rfl _ _ g 106 (boolC (markL l)).toArray (0, 0) _ (by rfl) HM6.out Try.underlying106 rfl HSZ.out) rfl ?_
      exact ⟨rfl, HB6.out⟩
theorem ext_yes {bad : List Int} {n : Nat} {k lack : Int} (h : k ∈ bad) : extL bad (n + 1) k lack = k :: extL bad n (k + 1) lack := by rw [extL, if_pos h]
theorem ext_more {bad : List Int} {n : Nat} {k lack : Int} (h : k ∉ bad) (hl : lack > 0) : extL bad (n + 1) k lack = k :: extL bad n (k + 1) (lack - 1) := by rw [extL, if_neg h, if_pos hl]
theorem ext_skip {bad : List Int} {n : Nat} {k lack : Int} (h : k ∉ bad) (hl : ¬ lack > 0) : extL bad (n + 1) k lack = extL bad n (k + 1) lack := by rw [extL, if_neg h, if_neg hl]
set_option maxHeartbeats 4000000 in
set_option maxRecDepth 100000 in
theorem ext_walk (p : Int) (N : Nat) (T : Int) (A : Option Addr) (c : Nat) (l : List Int) (w : World) (hr : Kd.C (Kd.int .i64) w A l.length l) (hc : l.length ≤ c) (hl : l.length ≤ 1000) (hx : ∀ i : Nat, i < l.length → 0 ≤ rd l (i : Int) ∧ rd l (i : Int) < 14) (hN : N ≤ 13) :
    Calls Try.prog 98 #[.agg #[.int .u64 p, .int .i64 (N : Int), .int .i64 T], .slice A l.length c] w fun e w' => ∃ v0_ : Value, e = .returned (v0_) ∧ Kd.R (Kd.int .i64) 3 w' w.heap.size (fun _ => True) v0_ (extL l N 1 (T - l.length)) ∧ Below w.heap.size w w' := by
  have HR := Aside0.mk hr
  have HX := Aside0.mk hx
  have HC := Aside0.mk hc
  have HL := Aside0.mk hl
  have hz := (zero_of_info (P := Try.prog) (t := 106) (v := .agg (boolC (markL [])).toArray) (n := 14) (by kernel_rfl)).1
  have hu := Try.underlying106
  have hu2 := Try.underlying24
  have hsz : (Try.prog.info? 106).map (·.size) = some (boolC (markL l)).toArray.size := by rw [infoA, List.size_toArray, boolC_length, markL_length]
  have HSZ := Aside0.mk hsz
  clear hr hx hc hl hsz
  go_enter Try.func98, Try.ntmps98
  go_wp2_with (first
    | ((with_reducible refine gate_dst (N := 2) rfl ?_); refine box_event ?hg (N := 2) ?hd (cs := #[.int .u64 p, .int .i64 (N : Int), .int .i64 T]) (t := 24) ?hr ?_; (case hd => rfl); (case hg => rfl); (case hr => first | (go_simp; done) | (go_simp; rfl)); intro gb hgb w4 hbox hb4; have GB := Aside0.mk hgb; have BK4 := Aside0.mk hbox; have HB4 := Aside0.mk hb4; clear hbox hb4 hgb)
    | (go_at_call 108; (refine (members_walk A c l _ (Kd.C_below HR.out HB4.out) HC.out HL.out HX.out).mono ?_); rintro e w5 ⟨rfl, hb5⟩; have BK5 := Aside0.mk (blk_below BK4.out hb5); have HB5 := Aside0.mk (below_step HB4.out hb5); clear hb5)
    | ((with_reducible refine gate_store (p := 5) rfl ?_); refine st_row rfl 106 (.tmp 5) (.tmp 10) rfl w5.heap.size (boolC (markL l)).toArray (by rfl) (by rfl) 106 (boolC (markL [])).toArray (blk_new w5 _) HSZ.out (by rw [List.size_toArray, List.size_toArray, boolC_length, boolC_length, markL_length, markL_length]) (boolC_one _) ?_; intro w6 hb6 hbw hbo; have BK6 := Aside0.mk (hbo gb _ (by have := blk_lt BK5.out; omega) (blk_alloc BK5.out _)); have HB6 := Aside0.mk (hbw _ _ (below_size HB5.out) (below_alloc HB5.out _)); have HM6 := Aside0.mk hb6; clear hb6 hbw hbo))
  obtain ⟨g, hg⟩ : ∃ y, y = w5.heap.size := ⟨_, rfl⟩
  rw [← hg] at HM6 ⊢
  have HG := Aside0.mk (show w.heap.size ≤ g by rw [hg]; exact below_size HB5.out)
  have HGB := Aside0.mk (show w.heap.size ≤ gb by rw [GB.out]; exact Nat.le_refl _)
  clear hg hz BK4 BK5 HB4 HB5 GB
  go_loopg [6, 7, 8] N (fun kq v6 v7 v8 w' => ∃ (k : Nat) (n : Int) (m : List Bool) (dn : List Int), v6 = .int .i64 n ∧ v8 = .int .i64 (k : Int) ∧ Aside0 (kq + k = N + 1 ∧ 1 ≤ k) ∧ Aside0 (0 ≤ n ∧ n + 1 ≤ l.length + k) ∧ Aside0 (m.length = 14 ∧ ∀ i : Nat, k ≤ i → i < 14 → m[i]? = some (decide ((i : Int) ∈ l))) ∧ Aside0 (dn ++ extL l (N + 1 - k) (k : Int) (T - n) = extL l N 1 (T - l.length)) ∧ Aside0 (dn.length + 1 ≤ k) ∧ Aside0 (Kd.R (Kd.int .i64) 3 w' w.heap.size (fun _ => True) v7 dn) ∧ Aside0 (w'.heap[g]? = some (.cells (boolC m).toArray 106 (0, 0))) ∧ Aside0 (w'.heap[gb]? = some (.cells #[.int .u64 p, .int .i64 (N : Int), .int .i64 T] 24 (0, 0))) ∧ Aside0 (Below w.heap.size w w'))
  case atStart => exact ⟨1, (l.length : Int), markL l, [], rfl, rfl, ⟨rfl, Nat.le_refl _⟩, ⟨by omega, by omega⟩, ⟨markL_length l, fun i _ hi => markL_get hi⟩, ⟨rfl⟩, ⟨Nat.le_refl _⟩, ⟨Kd.R_nil _ _ _ _ _⟩, HM6, BK6, HB6⟩
  case round =>
    clear HM6 BK6 HB6
    obtain ⟨k, n, m, dn, rfl, rfl, HK, HN, HM, HD, HDL, HO, HMB, BK, HB⟩ := hrel
    have cN := blk_cell BK.out 1
    have cT := blk_cell BK.out 2
    simp only [List.getElem?_toArray, List.getElem?_cons_zero, List.getElem?_cons_succ] at cN cT
    obtain ⟨hk0, hk1⟩ := HK.out
    obtain ⟨hn0, hn1⟩ := HN.out
    have hl := HL.out
    by_cases hlt : k ≤ N
    · have q1 : decide ((k : Int) ≤ (N : Int)) = true := decide_eq_true (by omega)
      have q2 : decide (k ≤ N) = true := decide_eq_true hlt
      have p1 : ((0 : Int) ≤ (k : Int)) = True := eq_true (by omega)
      have p2 : ((k : Int) < 14) = True := eq_true (by omega)
      have p3 : (k < 14) = True := eq_true (by omega)
      have c1 := blk_cell HMB.out k
      rw [List.getElem?_toArray, boolC_get (HM.out.2 k (Nat.le_refl _) (by omega))] at c1
      have f1 := blk_frozen HMB.out k
      have hrun : N + 1 - k = (N + 1 - (k + 1)) + 1 := by omega
      by_cases hb : (k : Int) ∈ l
      · have hd : decide ((k : Int) ∈ l) = true := decide_eq_true hb
        rw [hd] at c1
        have HE := Aside0.mk (show dn ++ [(k : Int)] ++ extL l (N + 1 - (k + 1)) ((k : Int) + 1) (T - n) = extL l N 1 (T - l.length) by rw [← HD.out, hrun, ext_yes hb, List.append_assoc]; rfl)
        obtain ⟨m1, hm1⟩ : ∃ y : List Int, y = dn ++ [(k : Int)] := ⟨_, rfl⟩
        have NM := Aside0.mk hm1
        obtain ⟨A7, c7, rfl⟩ := Kd.R_slice HO.out
        clear hm1 hd hb hrun hk0 hn1
        go_wp2_with (first
          | ((with_reducible refine gate_builtin (b := .append) (xs := #[.tmp 36, .tmp 38]) rfl ?_); at_builtin; refine Kd.R_append (Kd.int .i64) (w0 := w) w.heap.size rfl (.tmp 36) (.tmp 38) 25 3 (.int .i64 0) 8 rfl Try.underlying25 info3 rfl (by decide) (by omega) (.slice A7 dn.length c7) dn (k : Int) [.int .i64 (k : Int)] (fun _ => True) (fun _ => False) rfl rfl rfl (fun _ hk => hk.elim) (fun _ _ => trivial) HO.out HB.out (below_size HB.out) (by have := HDL.out; omega) ?_; intro v1 w1 ho hb hg hat; rw [← NM.out] at ho; have HMB1 := Aside0.mk (blk_grown HMB.out hg (Kd.R_ne HO.out HMB.out (by decide))); have BK1 := Aside0.mk (blk_grown BK.out hg (Kd.R_ne HO.out BK.out (by decide))); have HO1 := Aside0.mk ho; have HB1 := Aside0.mk hb; clear ho hb hg hat))
        go_roundg (N - k)
        case measure => have := HK.out; omega
        case rel => exact ⟨k + 1, n, m, m1, rfl, by go_num, ⟨by omega⟩, ⟨by have := HN.out; omega⟩, ⟨HM.out.1, fun i h1 h2 => HM.out.2 i (by omega) h2⟩, ⟨by rw [NM.out]; exact HE.out⟩, ⟨by rw [NM.out, List.length_append]; have := HDL.out; simp only [List.length_cons, List.length_nil]; omega⟩, HO1, HMB1, BK1, HB1⟩
      · have hd : decide ((k : Int) ∈ l) = false := decide_eq_false hb
        rw [hd] at c1
        by_cases hln : n < T
        · have q3 : decide (n < T) = true := decide_eq_true hln
          have HE := Aside0.mk (show dn ++ [(k : Int)] ++ extL l (N + 1 - (k + 1)) ((k : Int) + 1) (T - (n + 1)) = extL l N 1 (T - l.length) by rw [← HD.out, hrun, ext_more hb (by omega), List.append_assoc, show T - (n + 1) = T - n - 1 from by omega]; rfl)
          obtain ⟨m1, hm1⟩ : ∃ y : List Int, y = dn ++ [(k : Int)] := ⟨_, rfl⟩
          have NM := Aside0.mk hm1
          obtain ⟨A7, c7, rfl⟩ := Kd.R_slice HO.out
          have hb2 : (wr.setCell ⟨g, k, none⟩ (.bool true)).heap[g]? = some (.cells (boolC (m.set k true)).toArray 106 (0, 0)) := blk_put HMB.out k _ (by rw [List.setIfInBounds_toArray, boolC_set])
          have hgg : gb ≠ g := blk_ne BK.out HMB.out (by decide)
          have hb3 : (wr.setCell ⟨g, k, none⟩ (.bool true)).heap[gb]? = some (.cells #[.int .u64 p, .int .i64 (N : Int), .int .i64 T] 24 (0, 0)) := blk_far (p := ⟨g, k, none⟩) BK.out hgg _
          have hb4 := Kd.R_set HO.out HMB.out (by decide) k (.bool true)
          have hb5 := Below.setCell HB.out (p := ⟨g, k, none⟩) HG.out (.bool true)
          have c2 := blk_cell hb2 k
          rw [List.getElem?_toArray, boolC_get (b := true) (by rw [List.getElem?_set_self (by rw [HM.out.1]; omega)])] at c2
          have HB2 := Aside0.mk hb2
          have HB3 := Aside0.mk hb3
          have HB4 := Aside0.mk hb4
          have HB5 := Aside0.mk hb5
          clear hm1 hd hb hrun hk0 hn1 hb2 hb3 hb4 hb5 hgg
          go_wp2_with (first
            | ((with_reducible refine gate_builtin (b := .append) (xs := #[.tmp 36, .tmp 38]) rfl ?_); at_builtin; refine Kd.R_append (Kd.int .i64) (w0 := w) w.heap.size rfl (.tmp 36) (.tmp 38) 25 3 (.int .i64 0) 8 rfl Try.underlying25 info3 rfl (by decide) (by omega) (.slice A7 dn.length c7) dn (k : Int) [.int .i64 (k : Int)] (fun _ => True) (fun _ => False) rfl (by rw [show (wr.setCell ⟨g, k, none⟩ (.bool true)).heap.size = wr.heap.size from by simp [World.setCell]]; rfl) rfl (fun _ hk => hk.elim) (fun _ _ => trivial) HB4.out HB5.out (below_size HB5.out) (by have := HDL.out; omega) ?_; intro v1 w1 ho hb hg hat; rw [← NM.out] at ho; have HMB1 := Aside0.mk (blk_grown HB2.out hg (Kd.R_ne HB4.out HB2.out (by decide))); have BK1 := Aside0.mk (blk_grown HB3.out hg (Kd.R_ne HB4.out HB3.out (by decide))); have HO1 := Aside0.mk ho; have HB1 := Aside0.mk hb; clear ho hb hg hat))
          go_roundg (N - k)
          case measure => have := HK.out; omega
          case rel => exact ⟨k + 1, n + 1, m.set k true, m1, by rw [show wrap64 (n + 1) = n + 1 from w64' (by have := HN.out; have := HL.out; omega) (by have := HN.out; have := HL.out; omega)], by go_num, ⟨by omega⟩, ⟨by have := HN.out; omega⟩, ⟨by rw [List.length_set]; exact HM.out.1, fun i h1 h2 => by rw [List.getElem?_set_ne (by omega)]; exact HM.out.2 i (by omega) h2⟩, ⟨by rw [NM.out]; exact HE.out⟩, ⟨by rw [NM.out, List.length_append]; have := HDL.out; simp only [List.length_cons, List.length_nil]; omega⟩, HO1, HMB1, BK1, HB1⟩
        · have q3 : decide (n < T) = false := decide_eq_false hln
          have HE := Aside0.mk (show dn ++ extL l (N + 1 - (k + 1)) ((k : Int) + 1) (T - n) = extL l N 1 (T - l.length) by rw [← HD.out, hrun, ext_skip hb (by omega)])
          clear hd hb hrun hk0 hn1
          go_wp2
          go_roundg (N - k)
          case measure => have := HK.out; omega
          case rel => exact ⟨k + 1, n, m, dn, rfl, by go_num, ⟨by omega⟩, ⟨by have := HN.out; omega⟩, ⟨HM.out.1, fun i h1 h2 => HM.out.2 i (by omega) h2⟩, HE, ⟨by have := HDL.out; omega⟩, HO, HMB, BK, HB⟩
    · have q1 : decide ((k : Int) ≤ (N : Int)) = false := decide_eq_false (by omega)
      have q2 : decide (k ≤ N) = false := decide_eq_false hlt
      have hz : N + 1 - k = 0 := by omega
      have HE := Aside0.mk (show dn = extL l N 1 (T - l.length) by rw [← HD.out, hz]; simp [extL])
      clear hz
      go_wp2
      first | go_ret | ((try simp only [Exit.inBlock, Exit.then]); refine bodyPost_ret (results_tmp rfl _ _ rfl) rfl ?_)
      exact ⟨_, rfl, by rw [← HE.out]; exact HO.out, HB.out⟩
def params_ExtendCoalition.f (a0 a1 a2 : Int) (l : List Int) : Option (List Int) :=
  if 0 ≤ a1 then (if a1 ≤ 13 then (if l.length ≤ 1000 then (if (l.all fun x => decide (0 ≤ x) && decide (x < 14)) = true then some (extL l a1.toNat 1 (a2 - l.length)) else none) else none) else none) else none
theorem params_ExtendCoalition.calls (a0 a1 a2 : Int) (A1 : Option Addr) (c1 : Nat) (l1 : List Int) (r : List Int) (w : World) (hr1 : Kd.C (Kd.int .i64) w A1 l1.length l1) (hc1 : l1.length ≤ c1) (h : params_ExtendCoalition.f a0 a1 a2 l1 = some r) :
    Calls Try.prog 98 #[.agg #[.int .u64 a0, .int .i64 a1, .int .i64 a2], .slice A1 l1.length c1] w fun e w' => ∃ v0_ : Value, e = .returned (v0_) ∧ Kd.R (Kd.int .i64) 3 w' w.heap.size (fun _ => True) v0_ r ∧ Below w.heap.size w w' := by
  unfold params_ExtendCoalition.f at h
  obtain ⟨h1, h⟩ := ifs h
  obtain ⟨h2, h⟩ := ifs h
  obtain ⟨h3, h⟩ := ifs h
  obtain ⟨h4, h⟩ := ifs h
  rw [← Option.some.inj h]
  have e : ((a1.toNat : Nat) : Int) = a1 := Int.toNat_of_nonneg h1
  have hg := ext_walk a0 a1.toNat a2 A1 c1 l1 w hr1 hc1 h3 (fun i hi => by
    have hm := List.all_eq_true.1 h4 (l1[i]) (List.getElem_mem _)
    rw [Bool.and_eq_true, decide_eq_true_eq, decide_eq_true_eq] at hm
    have : rd l1 (i : Int) = l1[i] := by unfold rd; rw [Int.toNat_natCast, List.getD_eq_getElem?_getD, List.getElem?_eq_getElem hi]; rfl
    rw [this]; exact hm) (by omega)
  rw [e] at hg
  exact hg
end Go.Proofs.Ytejeelpnmdfibaa.Hw
end
section
/- Printed by a program of this seat (the kit's printer, with the functions that were proved by hand given to it). What stands here: the functions that the statements reach, as plain functions, and that the Go code computes them. -/
namespace Go.Proofs.Ytejeelpnmdfibaa.Pr
open Go.RowKit Go.Proofs.YtejeelpnmdfibaaW.PrintWords Go.Proofs.YtejeelpnmdfibaaW.PrintLast Go.Proofs.YtejeelpnmdfibaaW.PrintMore
attribute [local go_sem] max2_int min2_int max_two min_two max_three min_three max_four min_four   -- for this text's walks alone
set_option linter.unusedVariables false
set_option linter.unusedSimpArgs false

open Go.Proofs.Ytejeelpnmdfibaa.Hw
/-! ### params_VanishingPolynomial: function 72 -/
def params_VanishingPolynomial.l0 : Nat → List (S97) → List Int → Int → Int → Int → Int → Int → Option (List Int)
 | 0,_,_,_,_,_,_,_ => none
 | k + 1,x5,x14,x15,x16,x218000,x218001,x218002 => if x16 < x15 then (if 0 ≤ x16 then (if x16 < (x14.length : Int) then (if x5.length < 8796093022208 then (params_VanishingPolynomial.l0 k (x5 ++ [(⟨IntKind.u64.wrap (rd x14 x16),0⟩ : S97)]) x14 x15 (wrap64 (x16 + 1)) x218000 x218001 x218002) else (none)) else (none)) else (none)) else ((interpolate_Polynomial.f x218000 x5).bind fun bt228 => (some bt228.1))
def params_VanishingPolynomial.f (k : Nat) (a0_0 : Int) (a0_1 : Int) (a0_2 : Int) (l1 : List Int) : Option (List Int) := (params_ExtendCoalition.f a0_0 a0_1 a0_2 l1).bind fun t221 => (params_VanishingPolynomial.l0 k (([(⟨0, 1⟩ : S97)] : List (S97))) t221 (t221.length : Int) 0 a0_0 a0_1 a0_2)
theorem params_VanishingPolynomial.mono_l : ∀ k, (∀ y0 y1 y2 y3 y4 y5 y6, LeO (params_VanishingPolynomial.l0 k y0 y1 y2 y3 y4 y5 y6) (params_VanishingPolynomial.l0 (k + 1) y0 y1 y2 y3 y4 y5 y6))
 | 0 => fun _ _ _ _ _ _ _ r h => by simp [params_VanishingPolynomial.l0] at h
 | k + 1 => by
  have ih0 := params_VanishingPolynomial.mono_l k
  ·intro y0 y1 y2 y3 y4 y5 y6
   unfold params_VanishingPolynomial.l0
   repeat' first
   | (with_reducible exact ih0 _ _ _ _ _ _ _)
   | (with_reducible exact LeO.refl _)
   | (with_reducible exact LeO.none _)
   | (with_reducible refine LeO.ite ?_ ?_)
   | (with_reducible refine LeO.bind ?_ (fun _ => ?_))
   | exact ih0 _ _ _ _ _ _ _
   | exact LeO.none _
   | refine LeO.ite ?_ ?_
   | refine LeO.bind ?_ (fun _ => ?_)
theorem params_VanishingPolynomial.mono : ∀ a0 a1 a2 a3 k, LeO (params_VanishingPolynomial.f k a0 a1 a2 a3) (params_VanishingPolynomial.f (k + 1) a0 a1 a2 a3) := by
 intro a0 a1 a2 a3 k
 have ih0 := params_VanishingPolynomial.mono_l k
 unfold params_VanishingPolynomial.f
 repeat' first
   | (with_reducible exact ih0 _ _ _ _ _ _ _)
   | (with_reducible exact LeO.refl _)
   | (with_reducible exact LeO.none _)
   | (with_reducible refine LeO.ite ?_ ?_)
   | (with_reducible refine LeO.bind ?_ (fun _ => ?_))
   | exact ih0 _ _ _ _ _ _ _
   | exact LeO.none _
   | refine LeO.ite ?_ ?_
   | refine LeO.bind ?_ (fun _ => ?_)
set_option maxHeartbeats 8000000 in
set_option maxRecDepth 100000 in
theorem params_VanishingPolynomial.calls (k : Nat) (a0_0 : Int) (a0_1 : Int) (a0_2 : Int) (A1 : Option Addr) (c1 : Nat) (l1 : List Int) (r : List Int) (w : World) (hr1 : Kd.C (Kd.int .i64) w A1 l1.length l1) (hc1 : l1.length ≤ c1) (h : params_VanishingPolynomial.f k a0_0 a0_1 a0_2 l1 = some r) :
  Calls Try.prog 72 #[.agg #[.int .u64 a0_0,.int .i64 a0_1,.int .i64 a0_2],.slice A1 l1.length c1] w fun e w' => ∃ v0_ : Value,e = .returned (v0_) ∧ Kd.R (Kd.int .u64) 22 w' w.heap.size (fun _ => True) v0_ r ∧ Below w.heap.size w w' := by
 have hu24 := Try.underlying24
 have hu97 := Try.underlying97
 have HR1 := Aside0.mk hr1
 have HC1 := Aside0.mk hc1
 clear hr1 hc1
 have HB := Aside0.mk (Below.refl w.heap.size w)
 have H : ((params_ExtendCoalition.f a0_0 a0_1 a0_2 l1).bind fun t221 => (params_VanishingPolynomial.l0 k (([(⟨0,1⟩ : S97)] : List (S97))) t221 (t221.length : Int) 0 a0_0 a0_1 a0_2)) = some r := h
 clear h
 obtain ⟨y218,hy218⟩ : ∃ y_ : List (S97),y_ = (([(⟨0,1⟩ : S97)] : List (S97))) := ⟨_,rfl⟩
 replace H : ((params_ExtendCoalition.f a0_0 a0_1 a0_2 l1).bind fun t221 => (params_VanishingPolynomial.l0 k y218 t221 (t221.length : Int) 0 a0_0 a0_1 a0_2)) = some r := by first|(rw [hy218];with_reducible exact H)|(have H2_ := (Option.bind_some _ _).symm.trans H;rw [hy218];with_reducible exact H2_)|(have H2_ := (Option.bind_some _ _).symm.trans H;with_reducible exact H2_)|with_reducible exact H|(rw [hy218];exact H)|exact H
 have Ny218 := Aside0.mk hy218
 clear hy218
 replace H := Option.bind_eq_some_iff.mp H
 obtain ⟨t221,A30,H⟩ := H
 replace H : (params_VanishingPolynomial.l0 k y218 t221 (t221.length : Int) 0 a0_0 a0_1 a0_2) = some r := H
 have A3 := Aside0.mk A30
 clear A30
 have H' := Aside0.mk H
 clear H
 go_enter Try.func72,Try.ntmps72
 go_wp2_with (first|((with_reducible refine gate_dst (N := 2) rfl ?_);refine box_event ?hg (N := 2) ?hd (cs := #[.int .u64 a0_0,.int .i64 a0_1,.int .i64 a0_2]) (t := 24) ?hr ?_;(case hd => rfl);(case hg => rfl);(case hr => first|(go_simp;done)|(go_simp;rfl));intro gb217 hg w4 hbox hb;have n0_ := Aside0.mk (below_step (by repeat (first|(with_reducible first|exact HB.out|apply below_alloc|apply pw_below_drewN|apply below_drew1)|exact HB.out)) hb);have n1_ := Aside0.mk (hbox);have n2_ := Aside0.mk ((by rw [hg];exact (below_size (by repeat (first|(with_reducible first|exact HB.out|apply below_alloc|apply pw_below_drewN|apply below_drew1)|exact HB.out))) : w.heap.size ≤ gb217));have n3_ := Aside0.mk ((by rw [hg];exact (below_size (by repeat (first|(with_reducible first|exact HB.out|apply below_alloc|apply pw_below_drewN|apply below_drew1)|exact HB.out))) : w.heap.size ≤ gb217));clear HB;have HB := n0_;have BK217 := n1_;have GW217 := n2_;have GE217 := n3_;clear n0_ n1_ n2_ n3_;clear hb hbox hg)|((with_reducible refine gate_dst (N := 11) rfl ?_);refine Kd.R_lit k97 _ 97 ?hg (N := 11) ?hd (xs := ([(⟨0,1⟩ : S97)] : List (S97))) (inner := [.int .u64 0,.int .u64 1]) (ok := fun _ => True) (okp := fun _ => True) ?hr ?hp (fun _ hk => hk) trivial (Below.refl _ _) (Nat.le_refl _) (by simp) ?_;(case hd => rfl);(case hg => rfl);(case hr => first|(go_simp;done)|(go_simp;rfl));(case hp => exact (Reps.c2 (show Kd.M k97 _ _ _ (⟨0,1⟩ : S97) [.int .u64 0,.int .u64 1] from (k97_mkM _ _ _ (⟨0,1⟩ : S97) )) (Reps.none _ _)));intro v219 w5 ho6 hb hg_ hnew_;clear hg_ hnew_;(first|rw [← Ny218.out] at ho6|(simp only [Int.reduceToNat] at ho6;rw [← Ny218.out] at ho6));have n0_ := Aside0.mk (Kd.R_lower ho6 (below_size (by repeat (first|(with_reducible first|exact HB.out|apply below_alloc|apply pw_below_drewN|apply below_drew1|refine below_set ?_ GE217.out)|exact HB.out))));have n1_ := Aside0.mk (blk_below (g := gb217) (o := .cells #[.int .u64 a0_0,.int .i64 a0_1,.int .i64 a0_2] 24 (0,0)) (by (with_reducible repeat (first|refine blk_drewN ?_ _|refine blk_drew ?_|refine blk_alloc ?_ _));exact BK217.out) hb);have n2_ := Aside0.mk (below_step (by repeat (first|(with_reducible first|exact HB.out|apply below_alloc|apply pw_below_drewN|apply below_drew1|refine below_set ?_ GE217.out)|exact HB.out)) hb);clear BK217;clear HB;have HO220 := n0_;have BK217 := n1_;have HB := n2_;clear n0_ n1_ n2_;clear hb ho6;have hcz7_0 : w5.cell? ⟨gb217,0,none⟩ = some (.int .u64 a0_0) := (blk_cell BK217.out 0).trans rfl;have hcz7_1 : w5.cell? ⟨gb217,1,none⟩ = some (.int .i64 a0_1) := (blk_cell BK217.out 1).trans rfl;have hcz7_2 : w5.cell? ⟨gb217,2,none⟩ = some (.int .i64 a0_2) := (blk_cell BK217.out 2).trans rfl;have hfz7_0 := blk_frozen BK217.out 0;have hfz7_1 := blk_frozen BK217.out 1;have hfz7_2 := blk_frozen BK217.out 2)|((with_reducible refine gate_callee (f := 98) rfl ?_);refine goesL_ (some 14) rfl rfl Try.func98 (by kernel_rfl) rfl #[.agg #[.int .u64 a0_0,.int .i64 a0_1,.int .i64 a0_2],.slice A1 l1.length c1] rfl (by (try simp only [List.map_toArray,List.map_cons,List.map_nil]);first|done|rfl|(simp only [List.length_drop,List.length_take];rfl)) ?_;(with_reducible refine (params_ExtendCoalition.calls a0_0 a0_1 a0_2 _ _ l1 t221 _ ?side1 ?side2 A3.out).mono ?_);(case side1 => repeat (first|exact (Kd.C_below HR1.out HB.out)|(with_reducible refine Kd.C_alloc ?_ _)|(with_reducible refine Kd.C_drewN ?_ _)|(with_reducible refine Kd.C_drew ?_)));(case side2 => exact HC1.out);rintro e w8 ⟨v222,rfl,ho0,hb⟩;refine ⟨_,rfl,?_⟩;have n0_ := Aside0.mk (Kd.R_below (by (with_reducible repeat (first|apply Kd.R_alloc|apply Kd.R_drewN|apply Kd.R_drew));exact HO220.out) hb);have n1_ := Aside0.mk (Kd.R_lower ho0 (below_size (by repeat (first|(with_reducible first|exact HB.out|apply below_alloc|apply pw_below_drewN|apply below_drew1|refine below_set ?_ GE217.out)|exact HB.out))));have n2_ := Aside0.mk (blk_below (g := gb217) (o := .cells #[.int .u64 a0_0,.int .i64 a0_1,.int .i64 a0_2] 24 (0,0)) (by (with_reducible repeat (first|refine blk_drewN ?_ _|refine blk_drew ?_|refine blk_alloc ?_ _));exact BK217.out) hb);have n3_ := Aside0.mk (below_step (by repeat (first|(with_reducible first|exact HB.out|apply below_alloc|apply pw_below_drewN|apply below_drew1|refine below_set ?_ GE217.out)|exact HB.out)) hb);clear HO220;clear BK217;clear HB;have HO220 := n0_;have HO223 := n1_;have BK217 := n2_;have HB := n3_;clear n0_ n1_ n2_ n3_;(try clear hb);(try clear hb2);(try clear hk);(try clear hi);(try clear ho0);obtain ⟨Ao9,co9,eo9⟩ := Kd.R_slice HO223.out;subst eo9))
 go_loopg [5,16] k (fun kq v5 v16 w' => ∃ (x5_1 : List (S97)) (x16_1 : Int),v16 = .int .i64 x16_1 ∧ Aside0 (params_VanishingPolynomial.l0 kq x5_1 t221 (t221.length : Int) x16_1 a0_0 a0_1 a0_2 = some r) ∧ Aside0 (kq ≤ k) ∧ Aside0 (Kd.R k97 97 w' w.heap.size (fun _ => True) v5 x5_1) ∧ Aside0 (Kd.R (Kd.int .i64) 3 w' w.heap.size (fun _ => True) (.slice Ao9 t221.length co9) t221) ∧ Aside0 (w'.heap[gb217]? = some (.cells #[.int .u64 a0_0,.int .i64 a0_1,.int .i64 a0_2] 24 (0,0))) ∧ Aside0 (Below w.heap.size w w'))
 case atStart => exact ⟨(y218),(0),(by first|rfl|(simp;done)|(simp [*];done)),H',⟨Nat.le_refl _⟩,⟨by (with_reducible repeat (first|apply Kd.R_alloc|apply Kd.R_drewN|apply Kd.R_drew));exact HO220.out⟩,⟨by (with_reducible repeat (first|apply Kd.R_alloc|apply Kd.R_drewN|apply Kd.R_drew));exact HO223.out⟩,⟨by (with_reducible repeat (first|refine blk_drewN ?_ _|refine blk_drew ?_|refine blk_alloc ?_ _));exact BK217.out⟩,⟨by repeat (first|(with_reducible first|exact HB.out|apply below_alloc|apply pw_below_drewN|apply below_drew1|refine below_set ?_ GE217.out)|exact HB.out)⟩⟩
 case round =>
  clear H'
  try clear c1
  try clear c2
  try clear p2
  try clear c7
  try clear c9
  try clear hcz7_0
  try clear hcz7_1
  try clear hcz7_2
  try clear hfz7_0
  try clear hfz7_1
  try clear hfz7_2
  obtain ⟨x5_1,x16_1,rfl,HA,HK1,HO_5,HO_14,BK217,HB⟩ := hrel
  cases gk with
  | zero => exact absurd HA.out (by simp [params_VanishingPolynomial.l0])
  | succ k1 =>
   have H := HA.out
   clear HA
   simp only [params_VanishingPolynomial.l0] at H
   by_cases c10 : x16_1 < (t221.length : Int)
   ·rw [if_pos c10] at H
    have c10b0 : decide (x16_1 < (t221.length : Int)) = true := decide_eq_true c10
    clear c10
    by_cases c11 : 0 ≤ x16_1
    ·rw [if_pos c11] at H
     have c11b0 : decide (0 ≤ x16_1) = true := decide_eq_true c11
     clear c11
     by_cases c12 : x16_1 < (t221.length : Int)
     ·rw [if_pos c12] at H
      have c12b0 : decide (x16_1 < (t221.length : Int)) = true := decide_eq_true c12
      clear c12
      by_cases c13 : x5_1.length < 8796093022208
      ·rw [if_pos c13] at H
       have LMc13 := Aside0.mk c13
       clear c13
       obtain ⟨y225,hy225⟩ : ∃ y_ : List (S97),y_ = (x5_1 ++ [(⟨IntKind.u64.wrap (rd t221 x16_1),0⟩ : S97)]) := ⟨_,rfl⟩
       replace H : (params_VanishingPolynomial.l0 k1 y225 t221 (t221.length : Int) (wrap64 (x16_1 + 1)) a0_0 a0_1 a0_2) = some r := by first|(rw [hy225];with_reducible exact H)|(have H2_ := (Option.bind_some _ _).symm.trans H;rw [hy225];with_reducible exact H2_)|(have H2_ := (Option.bind_some _ _).symm.trans H;with_reducible exact H2_)|with_reducible exact H|(rw [hy225];exact H)|exact H
       have Ny225 := Aside0.mk hy225
       clear hy225
       have H' := Aside0.mk H
       clear H
       have p224 : 0 ≤ (x16_1 : Int) := of_decide_eq_true (by first|(with_reducible assumption)|assumption)
       have q224 : x16_1 < (t221.length : Int) := of_decide_eq_true (by first|(with_reducible assumption)|assumption)
       obtain ⟨ad224,e224,hx224_0⟩ := Kd.at_int (Kd.R_reads' HO_14.out).2.2 x16_1 p224 q224
       cases e224
       replace p224 := eq_true p224
       replace q224 := eq_true q224
       go_wp2_with (first|((with_reducible refine gate_builtin (b := .append) (xs := #[.tmp 20,.tmp 24]) rfl ?_);at_builtin;refine Kd.R_append k97 (w0 := w) w.heap.size rfl (.tmp 20) (.tmp 24) 98 97 (.agg #[(.int .u64 0),(.int .u64 0)]) 16 rfl Try.underlying98 info97 rfl (by decide) (by omega) u5 x5_1 (⟨IntKind.u64.wrap (rd t221 x16_1),0⟩ : S97) [.int .u64 (IntKind.u64.wrap (rd t221 x16_1)),.int .u64 0] (fun _ => True) (fun _ => False) rfl rfl ?aP (fun _ hk => hk.elim) ?aF ?aO ?aB ?aS ?aL ?_;(case aP => exact k97_mkM _ _ _ (⟨IntKind.u64.wrap (rd t221 x16_1),0⟩ : S97));(case aB => exact (by repeat (first|(with_reducible first|exact HB.out|apply below_alloc|apply pw_below_drewN|apply below_drew1|refine below_set ?_ GE217.out)|exact HB.out)));(case aF => exact (fun _ _ => trivial));(case aO => exact (by (with_reducible repeat (first|apply Kd.R_alloc|apply Kd.R_drewN|apply Kd.R_drew));exact HO_5.out));(case aS => exact (below_size (by repeat (first|(with_reducible first|exact HB.out|apply below_alloc|apply pw_below_drewN|apply below_drew1|refine below_set ?_ GE217.out)|exact HB.out))));(case aL => have := LMc13.out;omega);intro v226 w14 ho hb hg hat;rw [← Ny225.out] at ho;have n0_ := Aside0.mk (Kd.R_over' (by (with_reducible repeat (first|apply Kd.R_alloc|apply Kd.R_drewN|apply Kd.R_drew));exact HO_14.out) (Kd.R_typed (by (with_reducible repeat (first|apply Kd.R_alloc|apply Kd.R_drewN|apply Kd.R_drew));exact HO_5.out)) (by decide) hg);have n1_ := Aside0.mk (blk_grown (g := gb217) (o := .cells #[.int .u64 a0_0,.int .i64 a0_1,.int .i64 a0_2] 24 (0,0)) (by (with_reducible repeat (first|refine blk_drewN ?_ _|refine blk_drew ?_|refine blk_alloc ?_ _));exact BK217.out) hg (Kd.R_ne HO_5.out BK217.out (by decide)));have n2_ := Aside0.mk (hb);have n3_ := Aside0.mk (ho);clear HO_14;clear BK217;clear HB;clear HO_5;have HO_14 := n0_;have BK217 := n1_;have HB := n2_;have HO227 := n3_;clear n0_ n1_ n2_ n3_;clear ho hb hg hat))
       go_roundg k1
       case measure => have := HK1.out;omega
       case rel => exact ⟨(y225),(wrap64 (x16_1 + 1)),(by first|rfl|(simp;done)|(simp [*];done)),H',⟨by have := HK1.out;omega⟩,⟨by (with_reducible repeat (first|apply Kd.R_alloc|apply Kd.R_drewN|apply Kd.R_drew));exact HO227.out⟩,⟨by (with_reducible repeat (first|apply Kd.R_alloc|apply Kd.R_drewN|apply Kd.R_drew));exact HO_14.out⟩,⟨by (with_reducible repeat (first|refine blk_drewN ?_ _|refine blk_drew ?_|refine blk_alloc ?_ _));exact BK217.out⟩,⟨by repeat (first|(with_reducible first|exact HB.out|apply below_alloc|apply pw_below_drewN|apply below_drew1|refine below_set ?_ GE217.out)|exact HB.out)⟩⟩
      ·rw [if_neg c13] at H
       exact absurd H (by simp)
     ·rw [if_neg c12] at H
      exact absurd H (by simp)
    ·rw [if_neg c11] at H
     exact absurd H (by simp)
   ·rw [if_neg c10] at H
    have c10b0 : decide (x16_1 < (t221.length : Int)) = false := decide_eq_false c10
    clear c10
    replace H := Option.bind_eq_some_iff.mp H
    obtain ⟨⟨t228,t229⟩,A150,H⟩ := H
    replace H : (some t228) = some r := H
    have A15 := Aside0.mk A150
    clear A150
    obtain rfl := Option.some.inj H
    have hcz16_0 : wr.cell? ⟨gb217,0,none⟩ = some (.int .u64 a0_0) := (blk_cell BK217.out 0).trans rfl
    have hcz16_1 : wr.cell? ⟨gb217,1,none⟩ = some (.int .i64 a0_1) := (blk_cell BK217.out 1).trans rfl
    have hcz16_2 : wr.cell? ⟨gb217,2,none⟩ = some (.int .i64 a0_2) := (blk_cell BK217.out 2).trans rfl
    have hfz16_0 := blk_frozen BK217.out 0
    have hfz16_1 := blk_frozen BK217.out 1
    have hfz16_2 := blk_frozen BK217.out 2
    obtain ⟨Ao17,co17,eo17⟩ := Kd.R_slice HO_5.out
    subst eo17
    go_wp2_with (first|((with_reducible refine gate_callee (f := 99) rfl ?_);refine goesL_ (some 31) rfl rfl Try.func99 (by kernel_rfl) rfl #[.int .u64 a0_0,.slice Ao17 x5_1.length co17] rfl (by (try simp only [List.map_toArray,List.map_cons,List.map_nil]);first|done|rfl|(simp only [List.length_drop,List.length_take];rfl)) ?_;(with_reducible refine (interpolate_Polynomial.calls a0_0 _ _ x5_1 t228 t229 _ ?side1 ?side2 A15.out).mono ?_);(case side1 => repeat (first|exact (Kd.R_reads' HO_5.out).2.2|(with_reducible refine Kd.C_alloc ?_ _)|(with_reducible refine Kd.C_drewN ?_ _)|(with_reducible refine Kd.C_drew ?_)));(case side2 => exact (Kd.R_reads' HO_5.out).2.1);rintro e w18 ⟨v230,rfl,ho0,hb⟩;refine ⟨_,rfl,?_⟩;have n0_ := Aside0.mk (Kd.R_below (by (with_reducible repeat (first|apply Kd.R_alloc|apply Kd.R_drewN|apply Kd.R_drew));exact HO_5.out) hb);have n1_ := Aside0.mk (Kd.R_below (by (with_reducible repeat (first|apply Kd.R_alloc|apply Kd.R_drewN|apply Kd.R_drew));exact HO_14.out) hb);have n2_ := Aside0.mk (Kd.R_lower ho0 (below_size (by repeat (first|(with_reducible first|exact HB.out|apply below_alloc|apply pw_below_drewN|apply below_drew1|refine below_set ?_ GE217.out)|exact HB.out))));have n3_ := Aside0.mk (blk_below (g := gb217) (o := .cells #[.int .u64 a0_0,.int .i64 a0_1,.int .i64 a0_2] 24 (0,0)) (by (with_reducible repeat (first|refine blk_drewN ?_ _|refine blk_drew ?_|refine blk_alloc ?_ _));exact BK217.out) hb);have n4_ := Aside0.mk (below_step (by repeat (first|(with_reducible first|exact HB.out|apply below_alloc|apply pw_below_drewN|apply below_drew1|refine below_set ?_ GE217.out)|exact HB.out)) hb);clear HO_5;clear HO_14;clear BK217;clear HB;have HO_5 := n0_;have HO_14 := n1_;have HO231 := n2_;have BK217 := n3_;have HB := n4_;clear n0_ n1_ n2_ n3_ n4_;(try clear hb);(try clear hb2);(try clear hk);(try clear hi);(try clear ho0)))
    go_ret
    exact ⟨_,by first|rfl|(simp [errW_none,errW_some] <;> rfl)|(simp [*,errW_none,errW_some] <;> rfl),by (with_reducible repeat (first|apply Kd.R_alloc|apply Kd.R_drewN|apply Kd.R_drew));exact HO231.out,by repeat (first|(with_reducible first|exact HB.out|apply below_alloc|apply pw_below_drewN|apply below_drew1|refine below_set ?_ GE217.out)|exact HB.out)⟩
end Go.Proofs.Ytejeelpnmdfibaa.Pr
end
section
/- Printed by a program of this seat (the kit's printer, with the functions that were proved by hand given to it). What stands here: the functions that the statements reach, as plain functions, and that the Go code computes them. -/
namespace Go.Proofs.Ytejeelpnmdfibaa.Pr
open Go.RowKit Go.Proofs.YtejeelpnmdfibaaW.PrintWords Go.Proofs.YtejeelpnmdfibaaW.PrintLast Go.Proofs.YtejeelpnmdfibaaW.PrintMore
attribute [local go_sem] max2_int min2_int max_two min_two max_three min_three max_four min_four   -- for this text's walks alone
set_option linter.unusedVariables false
set_option linter.unusedSimpArgs false

open Go.Proofs.Ytejeelpnmdfibaa.Hw
/-! ### tapeshift_of: function 43 -/
def tapeshift_of.f (k : Nat) (a0_0 : Int) (a0_1 : Int) (a0_2 : Int) (l1 : List Int) : Option (Int × Int × List Int) := (params_VanishingPolynomial.f k a0_0 a0_1 a0_2 l1).bind fun t234 => (some (a0_0, a0_2, t234))
theorem tapeshift_of.mono : ∀ a0 a1 a2 a3 k, LeO (tapeshift_of.f k a0 a1 a2 a3) (tapeshift_of.f (k + 1) a0 a1 a2 a3) := by
 intro a0 a1 a2 a3 k
 unfold tapeshift_of.f
 repeat' first
   | (with_reducible exact params_VanishingPolynomial.mono _ _ _ _ _)
   | (with_reducible exact LeO.refl _)
   | (with_reducible exact LeO.none _)
   | (with_reducible refine LeO.ite ?_ ?_)
   | (with_reducible refine LeO.bind ?_ (fun _ => ?_))
   | exact params_VanishingPolynomial.mono _ _ _ _ _
   | exact LeO.none _
   | refine LeO.ite ?_ ?_
   | refine LeO.bind ?_ (fun _ => ?_)
def tapeshift_of.T1 : Bool × List (List Nat × List Nat) := (true, [([], []), ([0], [0]), ([], []), ([2], [2]), ([], []), ([], []), ([4, 5], [4, 5]), ([1, 3, 6], [1, 3, 6]), ([7, 6, 0, 1, 2, 3, 4, 5, 6, 7], [7])])
def tapeshift_of.B1 : List Nat := [0, 1, 0, 4, 0, 0, 48, 127, 255]
theorem tapeshift_of.tab1 : rtab .any (opsOf Try.f43 1) = tapeshift_of.T1 := by kernel_rfl
theorem tapeshift_of.bits1 : waitsOk tapeshift_of.T1.2 tapeshift_of.B1 = true := by kernel_rfl
set_option maxHeartbeats 8000000 in
set_option maxRecDepth 100000 in
theorem tapeshift_of.calls (k : Nat) (a0_0 : Int) (a0_1 : Int) (a0_2 : Int) (A1 : Option Addr) (c1 : Nat) (l1 : List Int) (r1 : Int) (r2 : Int) (r3 : List Int) (w : World) (hr1 : Kd.C (Kd.int .i64) w A1 l1.length l1) (hc1 : l1.length ≤ c1) (h : tapeshift_of.f k a0_0 a0_1 a0_2 l1 = some (r1, r2, r3)) :
  Calls Try.prog 43 #[.agg #[.int .u64 a0_0,.int .i64 a0_1,.int .i64 a0_2],.slice A1 l1.length c1] w fun e w' => ∃ v2_ : Value,e = .returned (.agg #[.int .u64 r1,.int .i64 r2,v2_]) ∧ Kd.R (Kd.int .u64) 22 w' w.heap.size (fun _ => True) v2_ r3 ∧ Below w.heap.size w w' := by
 have hu24 := Try.underlying24
 have hu59 := Try.underlying59
 have HR1 := Aside0.mk hr1
 have HC1 := Aside0.mk hc1
 clear hr1 hc1
 have HB := Aside0.mk (Below.refl w.heap.size w)
 have H : ((params_VanishingPolynomial.f k a0_0 a0_1 a0_2 l1).bind fun t234 => (some (a0_0,a0_2,t234))) = some (r1,r2,r3) := h
 clear h
 replace H := Option.bind_eq_some_iff.mp H
 obtain ⟨t234,A30,H⟩ := H
 replace H : (some (a0_0,a0_2,t234)) = some (r1,r2,r3) := H
 have A3 := Aside0.mk A30
 clear A30
 simp only [Option.some.injEq,Prod.mk.injEq] at H
 obtain ⟨rfl,rfl,rfl⟩ := H
 go_enter Try.func43,Try.ntmps43
 try go_wp2_with (first|((with_reducible refine gate_dst (N := 2) rfl ?_);refine box_event ?hg (N := 2) ?hd (cs := #[.int .u64 a0_0,.int .i64 a0_1,.int .i64 a0_2]) (t := 24) ?hr ?_;(case hd => rfl);(case hg => rfl);(case hr => first|(go_simp;done)|(go_simp;rfl));intro gb232 hg w4 hbox hb;have n0_ := Aside0.mk (below_step (by repeat (first|(with_reducible first|exact HB.out|apply below_alloc|apply pw_below_drewN|apply below_drew1)|exact HB.out)) hb);have n1_ := Aside0.mk (hbox);have n2_ := Aside0.mk ((by rw [hg];exact (below_size (by repeat (first|(with_reducible first|exact HB.out|apply below_alloc|apply pw_below_drewN|apply below_drew1)|exact HB.out))) : w.heap.size ≤ gb232));have n3_ := Aside0.mk ((by rw [hg];exact (below_size (by repeat (first|(with_reducible first|exact HB.out|apply below_alloc|apply pw_below_drewN|apply below_drew1)|exact HB.out))) : w.heap.size ≤ gb232));clear HB;have HB := n0_;have BK232 := n1_;have GW232 := n2_;have GE232 := n3_;clear n0_ n1_ n2_ n3_;clear hb hbox hg)|((with_reducible refine gate_dst (N := 4) rfl ?_);refine box_event ?hg (N := 4) ?hd (cs := #[.int .u64 0,.int .i64 0,.slice none 0 0]) (t := 59) ?hr ?_;(case hd => rfl);(case hg => rfl);(case hr => first|(go_simp;done)|(go_simp;rfl));intro gb233 hg w5 hbox hb;have n0_ := Aside0.mk (blk_below (g := gb232) (o := .cells #[.int .u64 a0_0,.int .i64 a0_1,.int .i64 a0_2] 24 (0,0)) (by (with_reducible repeat (first|refine blk_drewN ?_ _|refine blk_drew ?_|refine blk_alloc ?_ _));exact BK232.out) hb);have n1_ := Aside0.mk (below_step (by repeat (first|(with_reducible first|exact HB.out|apply below_alloc|apply pw_below_drewN|apply below_drew1|refine below_set ?_ GE232.out)|exact HB.out)) hb);have n2_ := Aside0.mk (hbox);have n3_ := Aside0.mk ((by rw [hg];exact (below_size (by repeat (first|(with_reducible first|exact HB.out|apply below_alloc|apply pw_below_drewN|apply below_drew1|refine below_set ?_ GE232.out)|exact HB.out))) : w.heap.size ≤ gb233));have n4_ := Aside0.mk ((by rw [hg];exact (below_size (by repeat (first|(with_reducible first|exact HB.out|apply below_alloc|apply pw_below_drewN|apply below_drew1|refine below_set ?_ GE232.out)|exact HB.out))) : w.heap.size ≤ gb233));have n5_ := Aside0.mk ((by rw [hg];exact Nat.ne_of_lt (blk_lt (g := gb232) (o := .cells #[.int .u64 a0_0,.int .i64 a0_1,.int .i64 a0_2] 24 (0,0)) (by (with_reducible repeat (first|refine blk_drewN ?_ _|refine blk_drew ?_|refine blk_alloc ?_ _));exact BK232.out)) : gb232 ≠ gb233));have n6_ := Aside0.mk ((by rw [hg];exact Nat.ne_of_gt (blk_lt (g := gb232) (o := .cells #[.int .u64 a0_0,.int .i64 a0_1,.int .i64 a0_2] 24 (0,0)) (by (with_reducible repeat (first|refine blk_drewN ?_ _|refine blk_drew ?_|refine blk_alloc ?_ _));exact BK232.out)) : gb233 ≠ gb232));clear BK232;clear HB;have BK232 := n0_;have HB := n1_;have BK233 := n2_;have GW233 := n3_;have GE233 := n4_;have NB232_233 := n5_;have NB233_232 := n6_;clear n0_ n1_ n2_ n3_ n4_ n5_ n6_;clear hb hbox hg))
 have n0_ := Aside0.mk (blk_drew BK232.out)
 have n1_ := Aside0.mk (blk_drew BK233.out)
 have n2_ := Aside0.mk (below_drew1 HB.out)
 clear BK232
 clear BK233
 clear HB
 have BK232 := n0_
 have BK233 := n1_
 have HB := n2_
 clear n0_ n1_ n2_
 refine start_ (n := 9) (S := fun w' => w'.cell? ⟨gb232,0,none⟩ = some (.int .u64 a0_0) ∧ w'.cell? ⟨gb232,1,none⟩ = some (.int .i64 a0_1) ∧ w'.cell? ⟨gb232,2,none⟩ = some (.int .i64 a0_2)) (ds := []) #[false,false,false,false,false,false,false,false,false] (by kernel_rfl) rfl rfl ⟨(blk_cell BK232.out 0).trans rfl,(blk_cell BK232.out 1).trans rfl,(blk_cell BK232.out 2).trans rfl⟩ (fun hHeld => ?_);refine with_tabW tapeshift_of.tab1 tapeshift_of.bits1 (fun HT_ HW_ => ?_)
 generalize w5.drew = w6 at BK232 BK233 HB hHeld ⊢
 refine pure_ (i := 0) (N := some 5) (v := ?_) (a' := ?_) #[true,false,false,false,false,false,false,false,false] rfl rfl (any_of HT_.out (by kernel_rfl)) (fun _ _ _ h => h) (Or.inl ⟨by rfl,?_⟩) ?_ ?_
 rotate_left
 ·intro w'
  go_simp
  with_reducible rfl
 rotate_left
 ·simp only [Act.put,List.setIfInBounds_toArray,List.set_cons_zero,List.set_cons_succ,i64_w,i32_w]
  rfl
 refine pure_ (i := 2) (N := some 7) (v := ?_) (a' := ?_) #[true,false,true,false,false,false,false,false,false] rfl rfl (any_of HT_.out (by kernel_rfl)) (fun _ _ _ h => h) (Or.inl ⟨by rfl,?_⟩) ?_ ?_
 rotate_left
 ·intro w'
  go_simp
  with_reducible rfl
 rotate_left
 ·simp only [Act.put,List.setIfInBounds_toArray,List.set_cons_zero,List.set_cons_succ,i64_w,i32_w]
  rfl
 refine pure_ (i := 5) (N := some 10) (v := ?_) (a' := ?_) #[true,false,true,false,false,true,false,false,false] rfl rfl (any_of HT_.out (by kernel_rfl)) (fun _ _ _ h => h) (Or.inl ⟨by rfl,?_⟩) ?_ ?_
 rotate_left
 ·intro w'
  go_simp
  with_reducible rfl
 rotate_left
 ·simp only [Act.put,List.setIfInBounds_toArray,List.set_cons_zero,List.set_cons_succ,i64_w,i32_w]
  rfl
 refine take_ (i := 1) (N := some 6) (v := ?_) (a' := ?_) #[true,true,true,false,false,true,false,false,false] rfl rfl (take_ofW HT_.out HW_.out (by kernel_rfl)) (fun _ _ _ h => h) (Or.inl ⟨by rfl,?_⟩) hHeld ?_ ?_
 rotate_left
 ·rintro w' ⟨s0,s1,s2⟩
  go_simp
  with_reducible rfl
 rotate_left
 ·simp only [Act.put,List.setIfInBounds_toArray,List.set_cons_zero,List.set_cons_succ,i64_w,i32_w]
  rfl
 refine take_ (i := 3) (N := some 8) (v := ?_) (a' := ?_) #[true,true,true,true,false,true,false,false,false] rfl rfl (take_ofW HT_.out HW_.out (by kernel_rfl)) (fun _ _ _ h => h) (Or.inl ⟨by rfl,?_⟩) hHeld ?_ ?_
 rotate_left
 ·rintro w' ⟨s0,s1,s2⟩
  go_simp
  with_reducible rfl
 rotate_left
 ·simp only [Act.put,List.setIfInBounds_toArray,List.set_cons_zero,List.set_cons_succ,i64_w,i32_w]
  rfl
 refine take_ (i := 4) (N := some 9) (v := ?_) (a' := ?_) #[true,true,true,true,true,true,false,false,false] rfl rfl (take_ofW HT_.out HW_.out (by kernel_rfl)) (fun _ _ _ h => h) (Or.inl ⟨by rfl,?_⟩) hHeld ?_ ?_
 rotate_left
 ·rintro w' ⟨s0,s1,s2⟩
  go_simp
  with_reducible rfl
 rotate_left
 ·simp only [Act.put,List.setIfInBounds_toArray,List.set_cons_zero,List.set_cons_succ,i64_w,i32_w]
  rfl
 refine one_ (i := 6) (N := some 11) #[true,true,true,true,true,true,true,false,false] rfl rfl (one_of HT_.out (by kernel_rfl)) (by decide) (fun K hK => ?_)
 refine goes_ Try.func72 (by kernel_rfl) rfl #[.agg #[.int .u64 a0_0,.int .i64 a0_1,.int .i64 a0_2],.slice A1 l1.length c1] (by rfl) rfl rfl (by (try simp only [List.map_toArray,List.map_cons,List.map_nil]);first|done|rfl|(simp only [List.length_drop,List.length_take];rfl)) ?_
 with_reducible refine (params_VanishingPolynomial.calls k a0_0 a0_1 a0_2 _ _ l1 t234 _ ?side1 ?side2 A3.out).mono ?_
 (case side1 => repeat (first|exact (Kd.C_below HR1.out HB.out)|(with_reducible refine Kd.C_alloc ?_ _)|(with_reducible refine Kd.C_drewN ?_ _)|(with_reducible refine Kd.C_drew ?_)))
 (case side2 => exact HC1.out)
 rintro e w7 ⟨v235,rfl,ho0,hb⟩
 refine ⟨_,rfl,?_⟩
 have n0_ := Aside0.mk (Kd.R_lower ho0 (below_size (by repeat (first|(with_reducible first|exact HB.out|apply below_alloc|apply pw_below_drewN|apply below_drew1|refine below_set ?_ GE232.out|refine below_set ?_ GE233.out)|exact HB.out))))
 have n1_ := Aside0.mk (blk_below (g := gb232) (o := .cells #[.int .u64 a0_0,.int .i64 a0_1,.int .i64 a0_2] 24 (0,0)) (by (with_reducible repeat (first|refine blk_drewN ?_ _|refine blk_drew ?_|refine blk_alloc ?_ _));exact BK232.out) hb)
 have n2_ := Aside0.mk (blk_below (g := gb233) (o := .cells #[.int .u64 0,.int .i64 0,.slice none 0 0] 59 (0,0)) (by (with_reducible repeat (first|refine blk_drewN ?_ _|refine blk_drew ?_|refine blk_alloc ?_ _));exact BK233.out) hb)
 have n3_ := Aside0.mk (below_step (by repeat (first|(with_reducible first|exact HB.out|apply below_alloc|apply pw_below_drewN|apply below_drew1|refine below_set ?_ GE232.out|refine below_set ?_ GE233.out)|exact HB.out)) hb)
 clear BK232
 clear BK233
 clear HB
 have HO236 := n0_
 have BK232 := n1_
 have BK233 := n2_
 have HB := n3_
 clear n0_ n1_ n2_ n3_
 (try clear hb)
 (try clear hb2)
 (try clear hk)
 (try clear hi)
 (try clear ho0)
 obtain ⟨Ao8,co8,eo8⟩ := Kd.R_slice HO236.out
 (first|subst eo8|(injection eo8 with f1_ f2_ f3_;have f4_ := f1_.symm;have f5_ := f3_.symm;clear f1_ f2_ f3_;subst f4_;subst f5_))
 refine hK.out _ _ ⟨(blk_cell BK232.out 0).trans rfl,(blk_cell BK232.out 1).trans rfl,(blk_cell BK232.out 2).trans rfl⟩ (fun hHeld => ?_)
 clear hK K
 refine norm_ (a' := ?_) ?_ ?_
 rotate_left
 ·show Act.put _ (some 11) _ = _
  simp only [Act.put,List.setIfInBounds_toArray,List.set_cons_zero,List.set_cons_succ,i64_w,i32_w]
  rfl
 refine pure_ (i := 7) (N := some 12) (v := ?_) (a' := ?_) #[true,true,true,true,true,true,true,true,false] rfl rfl (any_of HT_.out (by kernel_rfl)) (fun _ _ _ h => h) (Or.inl ⟨by rfl,?_⟩) ?_ ?_
 rotate_left
 ·intro w'
  go_simp
  with_reducible rfl
 rotate_left
 ·simp only [Act.put,List.setIfInBounds_toArray,List.set_cons_zero,List.set_cons_succ,i64_w,i32_w]
  rfl
 refine one_ (i := 8) (N := none) #[true,true,true,true,true,true,true,true,true] rfl rfl (one_of HT_.out (by kernel_rfl)) (by decide) (fun K hK => ?_)
 have hs9 : w7.cell? ⟨gb233,0,none⟩ = some (.int .u64 0) := (blk_cell BK233.out 0).trans rfl
 have hfs9 := blk_frozen BK233.out 0
 have hns9_0 := NB232_233.out
 have hms9_0 := NB233_232.out
 have hs10 : w7.cell? ⟨gb233,1,none⟩ = some (.int .i64 0) := (blk_cell BK233.out 1).trans rfl
 have hfs10 := blk_frozen BK233.out 1
 have hns10_0 := NB232_233.out
 have hms10_0 := NB233_232.out
 have hs11 : w7.cell? ⟨gb233,2,none⟩ = some (.slice none 0 0) := (blk_cell BK233.out 2).trans rfl
 have hfs11 := blk_frozen BK233.out 2
 have hns11_0 := NB232_233.out
 have hms11_0 := NB233_232.out
 refine skip_ (w1 := ?_) (by rfl) rfl ?_ ?_
 rotate_left
 ·go_simp
  rfl
 refine hK.out _ _ ⟨((cell_far (p := ⟨gb233,_,none⟩) NB232_233.out _).trans (((cell_far (p := ⟨gb233,_,none⟩) NB232_233.out _).trans (((cell_far (p := ⟨gb233,_,none⟩) NB232_233.out _).trans (hHeld.1)))))),((cell_far (p := ⟨gb233,_,none⟩) NB232_233.out _).trans (((cell_far (p := ⟨gb233,_,none⟩) NB232_233.out _).trans (((cell_far (p := ⟨gb233,_,none⟩) NB232_233.out _).trans (hHeld.2.1)))))),((cell_far (p := ⟨gb233,_,none⟩) NB232_233.out _).trans (((cell_far (p := ⟨gb233,_,none⟩) NB232_233.out _).trans (((cell_far (p := ⟨gb233,_,none⟩) NB232_233.out _).trans (hHeld.2.2))))))⟩ (fun hHeld => ?_)
 clear hK K
 refine done_ (done_of HT_.out (by kernel_rfl)) ?_
 try go_wp2
 refine bodyPost_ret (results_cell_row rfl _ _ gb233 59 #[.int .u64 a0_0,.int .i64 a0_2,.slice Ao8 t234.length co8] (0,0) _ rfl (by (with_reducible repeat (first|refine blk_drewN ?_ _|refine blk_drew ?_|refine blk_alloc ?_ _));refine blk_put (cs := #[.int .u64 a0_0,.int .i64 a0_2,.slice none 0 0]) ?_ 2 _ rfl;(with_reducible repeat (first|refine blk_drewN ?_ _|refine blk_drew ?_|refine blk_alloc ?_ _));refine blk_put (cs := #[.int .u64 a0_0,.int .i64 0,.slice none 0 0]) ?_ 1 _ rfl;(with_reducible repeat (first|refine blk_drewN ?_ _|refine blk_drew ?_|refine blk_alloc ?_ _));refine blk_put (cs := #[.int .u64 0,.int .i64 0,.slice none 0 0]) ?_ 0 _ rfl;(with_reducible repeat (first|refine blk_drewN ?_ _|refine blk_drew ?_|refine blk_alloc ?_ _));exact BK233.out) Try.underlying59 rfl (by kernel_rfl)) rfl ?_
 exact ⟨_,by first|rfl|(simp [errW_none,errW_some] <;> rfl)|(simp [*,errW_none,errW_some] <;> rfl),by (with_reducible repeat (first|apply Kd.R_alloc|apply Kd.R_drewN|apply Kd.R_drew));exact Kd.R_mono (Kd.R_far (p := ⟨gb233,2,none⟩) (Kd.R_far (p := ⟨gb233,1,none⟩) (Kd.R_far (p := ⟨gb233,0,none⟩) (Kd.R_types HO236.out BK233.out (by decide)) (fun _ hk => hk.2) (.int .u64 a0_0)) (fun _ hk => hk.2) (.int .i64 a0_2)) (fun _ hk => hk.2) (.slice Ao8 t234.length co8)) (fun _ hk => trivial),by repeat (first|(with_reducible first|exact HB.out|apply below_alloc|apply pw_below_drewN|apply below_drew1|refine below_set ?_ GE232.out|refine below_set ?_ GE233.out)|exact HB.out)⟩
end Go.Proofs.Ytejeelpnmdfibaa.Pr
end
section
/-
  slices.Clone at uint64, in the printer's form.
-/
namespace Go.Proofs.Ytejeelpnmdfibaa.Hw
open Go.RowKit Go.Proofs.Ytejeelpnmdfibaa.Pr Go.Proofs.YtejeelpnmdfibaaW.PrintWords Go.Proofs.YtejeelpnmdfibaaW.PrintLast Go.Proofs.YtejeelpnmdfibaaW.PrintMore Go.Proofs.Ytejeelpnmdfibaa.E
set_option linter.unusedVariables false
def slices_Clone_uint64_uint64.f (l : List Int) : Option (List Int) := if l.length ≤ 1000000 then some l else none
theorem slices_Clone_uint64_uint64.calls (A : Option Addr) (c : Nat) (l r : List Int) (w : World) (hr : Kd.C (Kd.int .u64) w A l.length l) (hc : l.length ≤ c) (h : slices_Clone_uint64_uint64.f l = some r) :
    Calls Try.prog 73 #[.slice A l.length c] w fun e w' => ∃ v0_ : Value, e = .returned (v0_) ∧ Kd.R (Kd.int .u64) 22 w' w.heap.size (fun _ => True) v0_ r ∧ Below w.heap.size w w' := by
  unfold slices_Clone_uint64_uint64.f at h
  split at h
  · rw [← Option.some.inj h]; exact clone_u64 A c l w hr hc (by omega)
  · cases h
end Go.Proofs.Ytejeelpnmdfibaa.Hw
end
section
/- Printed by a program of this seat (the kit's printer, with the functions that were proved by hand given to it). What stands here: the functions that the statements reach, as plain functions, and that the Go code computes them. -/
namespace Go.Proofs.Ytejeelpnmdfibaa.Pr
open Go.RowKit Go.Proofs.YtejeelpnmdfibaaW.PrintWords Go.Proofs.YtejeelpnmdfibaaW.PrintLast Go.Proofs.YtejeelpnmdfibaaW.PrintMore
attribute [local go_sem] max2_int min2_int max_two min_two max_three min_three max_four min_four   -- for this text's walks alone
set_option linter.unusedVariables false
set_option linter.unusedSimpArgs false

open Go.Proofs.Ytejeelpnmdfibaa.Hw
/-! ### tapeshift_mover_by: function 44 -/
def tapeshift_mover_by.l0 : Nat → Int → List Int → Int → Int → Int → Int → List Int → Option (List Int)
 | 0,_,_,_,_,_,_,_ => none
 | k + 1,x1,x7,x12,x13,x238000,x238001,x238002 => if x13 < x12 then (if 0 ≤ x13 then (if x13 < (x7.length : Int) then (if x13 < (x238002.length : Int) then ((field_Mul.f k x238000 x1 (rd x238002 x13)).bind fun t243 => ((field_Add.f k x238000 (rd x7 x13) t243).bind fun t244 => (tapeshift_mover_by.l0 k x1 (x7.set (x13 : Int).toNat t244) x12 (wrap64 (x13 + 1)) x238000 x238001 x238002))) else (none)) else (none)) else (none)) else (some x7)
def tapeshift_mover_by.f (k : Nat) (a0_0 : Int) (a0_1 : Int) (l0_2 : List Int) (a1 : Int) (l2 : List Int) : Option (List Int) := (slices_Clone_uint64_uint64.f l2).bind fun t238 => (tapeshift_mover_by.l0 k a1 t238 (t238.length : Int) 0 a0_0 a0_1 l0_2)
theorem tapeshift_mover_by.mono_l : ∀ k, (∀ y0 y1 y2 y3 y4 y5 y6, LeO (tapeshift_mover_by.l0 k y0 y1 y2 y3 y4 y5 y6) (tapeshift_mover_by.l0 (k + 1) y0 y1 y2 y3 y4 y5 y6))
 | 0 => fun _ _ _ _ _ _ _ r h => by simp [tapeshift_mover_by.l0] at h
 | k + 1 => by
  have ih0 := tapeshift_mover_by.mono_l k
  ·intro y0 y1 y2 y3 y4 y5 y6
   unfold tapeshift_mover_by.l0
   repeat' first
   | (with_reducible exact ih0 _ _ _ _ _ _ _)
   | (with_reducible exact field_Add.mono _ _ _ _)
   | (with_reducible exact field_Mul.mono _ _ _ _)
   | (with_reducible exact LeO.refl _)
   | (with_reducible exact LeO.none _)
   | (with_reducible refine LeO.ite ?_ ?_)
   | (with_reducible refine LeO.bind ?_ (fun _ => ?_))
   | exact ih0 _ _ _ _ _ _ _
   | exact field_Add.mono _ _ _ _
   | exact field_Mul.mono _ _ _ _
   | exact LeO.none _
   | refine LeO.ite ?_ ?_
   | refine LeO.bind ?_ (fun _ => ?_)
theorem tapeshift_mover_by.mono : ∀ a0 a1 a2 a3 a4 k, LeO (tapeshift_mover_by.f k a0 a1 a2 a3 a4) (tapeshift_mover_by.f (k + 1) a0 a1 a2 a3 a4) := by
 intro a0 a1 a2 a3 a4 k
 have ih0 := tapeshift_mover_by.mono_l k
 unfold tapeshift_mover_by.f
 repeat' first
   | (with_reducible exact ih0 _ _ _ _ _ _ _)
   | (with_reducible exact field_Add.mono _ _ _ _)
   | (with_reducible exact field_Mul.mono _ _ _ _)
   | (with_reducible exact LeO.refl _)
   | (with_reducible exact LeO.none _)
   | (with_reducible refine LeO.ite ?_ ?_)
   | (with_reducible refine LeO.bind ?_ (fun _ => ?_))
   | exact ih0 _ _ _ _ _ _ _
   | exact field_Add.mono _ _ _ _
   | exact field_Mul.mono _ _ _ _
   | exact LeO.none _
   | refine LeO.ite ?_ ?_
   | refine LeO.bind ?_ (fun _ => ?_)
def tapeshift_mover_by.T5 : Bool × List (List Nat × List Nat) := (true, [([], []), ([], []), ([], []), ([2], [2]), ([], []), ([], []), ([4, 5], [4, 5]), ([6], [6]), ([], []), ([8], [8]), ([], []), ([], []), ([11], [11]), ([], []), ([12, 13], [12, 13]), ([14], [14]), ([9, 10, 15], [9, 10, 15]), ([3, 7, 16, 16], [3, 7, 16]), ([0, 1, 0, 1, 2, 3, 4, 5, 6, 7, 8, 9, 10, 11, 12, 13, 14, 15, 16, 17], [0, 1]), ([18, 17, 17, 0, 1, 2, 3, 4, 5, 6, 7, 8, 9, 10, 11, 12, 13, 14, 15, 16, 17], [17, 18])])
def tapeshift_mover_by.B5 : List Nat := [0, 0, 0, 4, 0, 0, 48, 112, 0, 256, 0, 0, 2048, 0, 14336, 30720, 65280, 131068, 262143, 524287]
theorem tapeshift_mover_by.tab5 : rtab .any (opsOf Try.f44 5) = tapeshift_mover_by.T5 := by kernel_rfl
theorem tapeshift_mover_by.bits5 : waitsOk tapeshift_mover_by.T5.2 tapeshift_mover_by.B5 = true := by kernel_rfl
set_option maxHeartbeats 8000000 in
set_option maxRecDepth 100000 in
theorem tapeshift_mover_by.calls (k : Nat) (a0_0 : Int) (a0_1 : Int) (A0_2 : Option Addr) (c0_2 : Nat) (l0_2 : List Int) (a1 : Int) (A2 : Option Addr) (c2 : Nat) (l2 : List Int) (r : List Int) (w : World) (hr0_2 : Kd.C (Kd.int .u64) w A0_2 l0_2.length l0_2) (hc0_2 : l0_2.length ≤ c0_2) (hr2 : Kd.C (Kd.int .u64) w A2 l2.length l2) (hc2 : l2.length ≤ c2) (h : tapeshift_mover_by.f k a0_0 a0_1 l0_2 a1 l2 = some r) :
  Calls Try.prog 44 #[.agg #[.int .u64 a0_0,.int .i64 a0_1,.slice A0_2 l0_2.length c0_2],.int .u64 a1,.slice A2 l2.length c2] w fun e w' => ∃ v0_ : Value,e = .returned (v0_) ∧ Kd.R (Kd.int .u64) 22 w' w.heap.size (fun _ => True) v0_ r ∧ Below w.heap.size w w' := by
 have hu59 := Try.underlying59
 have HR0_2 := Aside0.mk hr0_2
 have HC0_2 := Aside0.mk hc0_2
 clear hr0_2 hc0_2
 have HR2 := Aside0.mk hr2
 have HC2 := Aside0.mk hc2
 clear hr2 hc2
 have HB := Aside0.mk (Below.refl w.heap.size w)
 have H : ((slices_Clone_uint64_uint64.f l2).bind fun t238 => (tapeshift_mover_by.l0 k a1 t238 (t238.length : Int) 0 a0_0 a0_1 l0_2)) = some r := h
 clear h
 replace H := Option.bind_eq_some_iff.mp H
 obtain ⟨t238,A40,H⟩ := H
 replace H : (tapeshift_mover_by.l0 k a1 t238 (t238.length : Int) 0 a0_0 a0_1 l0_2) = some r := H
 have A4 := Aside0.mk A40
 clear A40
 have H' := Aside0.mk H
 clear H
 go_enter Try.func44,Try.ntmps44
 go_wp2_with (first|((with_reducible refine gate_dst (N := 3) rfl ?_);refine box_event ?hg (N := 3) ?hd (cs := #[.int .u64 a0_0,.int .i64 a0_1,.slice A0_2 l0_2.length c0_2]) (t := 59) ?hr ?_;(case hd => rfl);(case hg => rfl);(case hr => first|(go_simp;done)|(go_simp;rfl));intro gb237 hg w5 hbox hb;have n0_ := Aside0.mk (below_step (by repeat (first|(with_reducible first|exact HB.out|apply below_alloc|apply pw_below_drewN|apply below_drew1)|exact HB.out)) hb);have n1_ := Aside0.mk (hbox);have n2_ := Aside0.mk ((by rw [hg];exact (below_size (by repeat (first|(with_reducible first|exact HB.out|apply below_alloc|apply pw_below_drewN|apply below_drew1)|exact HB.out))) : w.heap.size ≤ gb237));have n3_ := Aside0.mk ((by rw [hg];exact (below_size (by repeat (first|(with_reducible first|exact HB.out|apply below_alloc|apply pw_below_drewN|apply below_drew1)|exact HB.out))) : w.heap.size ≤ gb237));clear HB;have HB := n0_;have BK237 := n1_;have GW237 := n2_;have GE237 := n3_;clear n0_ n1_ n2_ n3_;clear hb hbox hg)|((with_reducible refine gate_callee (f := 73) rfl ?_);refine goesL_ (some 10) rfl rfl Try.func73 (by kernel_rfl) rfl #[.slice A2 l2.length c2] rfl (by (try simp only [List.map_toArray,List.map_cons,List.map_nil]);first|done|rfl|(simp only [List.length_drop,List.length_take];rfl)) ?_;(with_reducible refine (slices_Clone_uint64_uint64.calls _ _ l2 t238 _ ?side1 ?side2 A4.out).mono ?_);(case side1 => repeat (first|exact (Kd.C_below HR2.out HB.out)|(with_reducible refine Kd.C_alloc ?_ _)|(with_reducible refine Kd.C_drewN ?_ _)|(with_reducible refine Kd.C_drew ?_)));(case side2 => exact HC2.out);rintro e w6 ⟨v239,rfl,ho0,hb⟩;refine ⟨_,rfl,?_⟩;have n0_ := Aside0.mk (Kd.R_lower ho0 (below_size (by repeat (first|(with_reducible first|exact HB.out|apply below_alloc|apply pw_below_drewN|apply below_drew1|refine below_set ?_ GE237.out)|exact HB.out))));have n1_ := Aside0.mk (blk_below (g := gb237) (o := .cells #[.int .u64 a0_0,.int .i64 a0_1,.slice A0_2 l0_2.length c0_2] 59 (0,0)) (by (with_reducible repeat (first|refine blk_drewN ?_ _|refine blk_drew ?_|refine blk_alloc ?_ _));exact BK237.out) hb);have n2_ := Aside0.mk (below_step (by repeat (first|(with_reducible first|exact HB.out|apply below_alloc|apply pw_below_drewN|apply below_drew1|refine below_set ?_ GE237.out)|exact HB.out)) hb);clear BK237;clear HB;have HO240 := n0_;have BK237 := n1_;have HB := n2_;clear n0_ n1_ n2_;(try clear hb);(try clear hb2);(try clear hk);(try clear hi);(try clear ho0);obtain ⟨Ao7,co7,eo7⟩ := Kd.R_slice HO240.out;subst eo7))
 go_loopg [13] k (fun kq v13 w' => ∃ (x7_1 : List Int) (x13_1 : Int),v13 = .int .i64 x13_1 ∧ Aside0 (tapeshift_mover_by.l0 kq a1 x7_1 (t238.length : Int) x13_1 a0_0 a0_1 l0_2 = some r) ∧ Aside0 (kq ≤ k) ∧ Aside0 (Kd.R (Kd.int .u64) 22 w' w.heap.size (fun _ => True) (.slice Ao7 t238.length co7) x7_1) ∧ Aside0 (w'.heap[gb237]? = some (.cells #[.int .u64 a0_0,.int .i64 a0_1,(.slice A0_2 l0_2.length c0_2)] 59 (0,0))) ∧ Aside0 (Below w.heap.size w w'))
 case atStart => exact ⟨(t238),(0),(by first|rfl|(simp;done)|(simp [*];done)),H',⟨Nat.le_refl _⟩,⟨by (with_reducible repeat (first|apply Kd.R_alloc|apply Kd.R_drewN|apply Kd.R_drew));exact HO240.out⟩,⟨by (with_reducible repeat (first|refine blk_drewN ?_ _|refine blk_drew ?_|refine blk_alloc ?_ _));exact BK237.out⟩,⟨by repeat (first|(with_reducible first|exact HB.out|apply below_alloc|apply pw_below_drewN|apply below_drew1|refine below_set ?_ GE237.out)|exact HB.out)⟩⟩
 case round =>
  clear H'
  try clear c2
  try clear p2
  try clear c4
  try clear c7
  obtain ⟨x7_1,x13_1,rfl,HA,HK1,HO_7,BK237,HB⟩ := hrel
  have hl7_1 := (Kd.R_reads' HO_7.out).1
  rw [hl7_1] at HO_7
  (try simp only [hl7_1])
  (try simp only [hl7_1] at BK237)
  cases gk with
  | zero => exact absurd HA.out (by simp [tapeshift_mover_by.l0])
  | succ k1 =>
   have H := HA.out
   clear HA
   simp only [tapeshift_mover_by.l0] at H
   by_cases c8 : x13_1 < (t238.length : Int)
   ·rw [if_pos c8] at H
    have c8b0 : decide (x13_1 < (t238.length : Int)) = true := decide_eq_true c8
    try have c8b0_ : decide (x13_1 < (x7_1.length : Int)) = true := by rw [← hl7_1];exact c8b0
    clear c8
    by_cases c9 : 0 ≤ x13_1
    ·rw [if_pos c9] at H
     have c9b0 : decide (0 ≤ x13_1) = true := decide_eq_true c9
     clear c9
     by_cases c10 : x13_1 < (x7_1.length : Int)
     ·rw [if_pos c10] at H
      have c10b0 : decide (x13_1 < (x7_1.length : Int)) = true := decide_eq_true c10
      clear c10
      by_cases c11 : x13_1 < (l0_2.length : Int)
      ·rw [if_pos c11] at H
       have c11b0 : decide (x13_1 < (l0_2.length : Int)) = true := decide_eq_true c11
       clear c11
       replace H := Option.bind_eq_some_iff.mp H
       obtain ⟨t243,A120,H⟩ := H
       replace H : ((field_Add.f k1 a0_0 (rd x7_1 x13_1) t243).bind fun t244 => (tapeshift_mover_by.l0 k1 a1 (x7_1.set (x13_1 : Int).toNat t244) (t238.length : Int) (wrap64 (x13_1 + 1)) a0_0 a0_1 l0_2)) = some r := H
       have A12 := Aside0.mk A120
       clear A120
       replace H := Option.bind_eq_some_iff.mp H
       obtain ⟨t244,A130,H⟩ := H
       replace H : (tapeshift_mover_by.l0 k1 a1 (x7_1.set (x13_1 : Int).toNat t244) (t238.length : Int) (wrap64 (x13_1 + 1)) a0_0 a0_1 l0_2) = some r := H
       have A13 := Aside0.mk A130
       clear A130
       obtain ⟨y245,hy245⟩ : ∃ y_ : List Int,y_ = (x7_1.set (x13_1 : Int).toNat t244) := ⟨_,rfl⟩
       replace H : (tapeshift_mover_by.l0 k1 a1 y245 (t238.length : Int) (wrap64 (x13_1 + 1)) a0_0 a0_1 l0_2) = some r := by first|(rw [hy245];with_reducible exact H)|(have H2_ := (Option.bind_some _ _).symm.trans H;rw [hy245];with_reducible exact H2_)|(have H2_ := (Option.bind_some _ _).symm.trans H;with_reducible exact H2_)|with_reducible exact H|(rw [hy245];exact H)|exact H
       have Ny245 := Aside0.mk hy245
       clear hy245
       have H' := Aside0.mk H
       clear H
       try go_wp2
       have n0_ := Aside0.mk (Kd.R_drew HO_7.out)
       have n1_ := Aside0.mk (blk_drew BK237.out)
       have n2_ := Aside0.mk (below_drew1 HB.out)
       clear HO_7
       clear BK237
       clear HB
       have HO_7 := n0_
       have BK237 := n1_
       have HB := n2_
       clear n0_ n1_ n2_
       have p241 : 0 ≤ (x13_1 : Int) := of_decide_eq_true (by first|(with_reducible assumption)|assumption)
       have q241 : x13_1 < (x7_1.length : Int) := of_decide_eq_true (by first|(with_reducible assumption)|assumption)
       obtain ⟨ad241,e241,hx241_0⟩ := Kd.at_int (Kd.R_reads' HO_7.out).2.2 x13_1 p241 q241
       cases e241
       replace p241 := eq_true p241
       replace q241 := eq_true q241
       have p242 : 0 ≤ (x13_1 : Int) := of_decide_eq_true (by first|(with_reducible assumption)|assumption)
       have q242 : x13_1 < (l0_2.length : Int) := of_decide_eq_true (by first|(with_reducible assumption)|assumption)
       obtain ⟨ad242,e242,hx242_0⟩ := Kd.at_int HR0_2.out x13_1 p242 q242
       have hw242_0 := hx242_0
       cases e242
       replace hx242_0 := (HB.out.cell (World.block_lt_of_cell? w _ hx242_0)).trans hx242_0
       replace p242 := eq_true p242
       replace q242 := eq_true q242
       refine start_ (n := 20) (S := fun w' => w'.cell? ⟨gb237,0,none⟩ = some (.int .u64 a0_0) ∧ w'.cell? ⟨gb237,1,none⟩ = some (.int .i64 a0_1) ∧ w'.cell? ⟨gb237,2,none⟩ = some (.slice (some ad242) l0_2.length c0_2) ∧ w'.cell? (ad241.add (x13_1).toNat) = some (.int .u64 (rd x7_1 x13_1)) ∧ w'.cell? (ad242.add (x13_1).toNat) = some (.int .u64 (rd l0_2 x13_1))) (ds := [19]) #[false,false,false,false,false,false,false,false,false,false,false,false,false,false,false,false,false,false,false,false] (by kernel_rfl) rfl rfl ⟨(blk_cell BK237.out 0).trans rfl,(blk_cell BK237.out 1).trans rfl,(blk_cell BK237.out 2).trans rfl,hx241_0,((HB.out.cell (World.block_lt_of_cell? w _ hw242_0)).trans hw242_0)⟩ (fun hHeld => ?_);refine with_tabW tapeshift_mover_by.tab5 tapeshift_mover_by.bits5 (fun HT_ HW_ => ?_)
       generalize wr.drew = w15 at HO_7 BK237 HB hx241_0 hx242_0 hHeld ⊢
       refine pure_ (i := 0) (N := some 16) (v := ?_) (a' := ?_) #[true,false,false,false,false,false,false,false,false,false,false,false,false,false,false,false,false,false,false,false] rfl rfl (any_of HT_.out (by kernel_rfl)) (fun _ _ _ h => h) (Or.inl ⟨by rfl,?_⟩) ?_ ?_
       rotate_left
       ·intro w'
        go_simp
        with_reducible rfl
       rotate_left
       ·simp only [Act.put,List.setIfInBounds_toArray,List.set_cons_zero,List.set_cons_succ,i64_w,i32_w]
        rfl
       refine pure_ (i := 1) (N := some 17) (v := ?_) (a' := ?_) #[true,true,false,false,false,false,false,false,false,false,false,false,false,false,false,false,false,false,false,false] rfl rfl (any_of HT_.out (by kernel_rfl)) (fun _ _ _ h => h) (Or.inl ⟨by rfl,?_⟩) ?_ ?_
       rotate_left
       ·intro w'
        go_simp
        with_reducible rfl
       rotate_left
       ·simp only [Act.put,List.setIfInBounds_toArray,List.set_cons_zero,List.set_cons_succ,i64_w,i32_w]
        rfl
       refine pure_ (i := 2) (N := some 18) (v := ?_) (a' := ?_) #[true,true,true,false,false,false,false,false,false,false,false,false,false,false,false,false,false,false,false,false] rfl rfl (any_of HT_.out (by kernel_rfl)) (fun _ _ _ h => h) (Or.inl ⟨by rfl,?_⟩) ?_ ?_
       rotate_left
       ·intro w'
        go_simp
        with_reducible rfl
       rotate_left
       ·simp only [Act.put,List.setIfInBounds_toArray,List.set_cons_zero,List.set_cons_succ,i64_w,i32_w]
        rfl
       refine pure_ (i := 4) (N := some 20) (v := ?_) (a' := ?_) #[true,true,true,false,true,false,false,false,false,false,false,false,false,false,false,false,false,false,false,false] rfl rfl (any_of HT_.out (by kernel_rfl)) (fun _ _ _ h => h) (Or.inl ⟨by rfl,?_⟩) ?_ ?_
       rotate_left
       ·intro w'
        go_simp
        with_reducible rfl
       rotate_left
       ·simp only [Act.put,List.setIfInBounds_toArray,List.set_cons_zero,List.set_cons_succ,i64_w,i32_w]
        rfl
       refine pure_ (i := 5) (N := some 21) (v := ?_) (a' := ?_) #[true,true,true,false,true,true,false,false,false,false,false,false,false,false,false,false,false,false,false,false] rfl rfl (any_of HT_.out (by kernel_rfl)) (fun _ _ _ h => h) (Or.inl ⟨by rfl,?_⟩) ?_ ?_
       rotate_left
       ·intro w'
        go_simp
        with_reducible rfl
       rotate_left
       ·simp only [Act.put,List.setIfInBounds_toArray,List.set_cons_zero,List.set_cons_succ,i64_w,i32_w]
        rfl
       refine pure_ (i := 6) (N := some 22) (v := ?_) (a' := ?_) #[true,true,true,false,true,true,true,false,false,false,false,false,false,false,false,false,false,false,false,false] rfl rfl (any_of HT_.out (by kernel_rfl)) (fun _ _ _ h => h) (Or.inl ⟨by rfl,?_⟩) ?_ ?_
       rotate_left
       ·intro w'
        go_simp
        with_reducible rfl
       rotate_left
       ·simp only [Act.put,List.setIfInBounds_toArray,List.set_cons_zero,List.set_cons_succ,i64_w,i32_w]
        rfl
       refine pure_ (i := 8) (N := some 24) (v := ?_) (a' := ?_) #[true,true,true,false,true,true,true,false,true,false,false,false,false,false,false,false,false,false,false,false] rfl rfl (any_of HT_.out (by kernel_rfl)) (fun _ _ _ h => h) (Or.inl ⟨by rfl,?_⟩) ?_ ?_
       rotate_left
       ·intro w'
        go_simp
        with_reducible rfl
       rotate_left
       ·simp only [Act.put,List.setIfInBounds_toArray,List.set_cons_zero,List.set_cons_succ,i64_w,i32_w]
        rfl
       refine pure_ (i := 10) (N := some 26) (v := ?_) (a' := ?_) #[true,true,true,false,true,true,true,false,true,false,true,false,false,false,false,false,false,false,false,false] rfl rfl (any_of HT_.out (by kernel_rfl)) (fun _ _ _ h => h) (Or.inl ⟨by rfl,?_⟩) ?_ ?_
       rotate_left
       ·intro w'
        go_simp
        with_reducible rfl
       rotate_left
       ·simp only [Act.put,List.setIfInBounds_toArray,List.set_cons_zero,List.set_cons_succ,i64_w,i32_w]
        rfl
       refine pure_ (i := 11) (N := some 27) (v := ?_) (a' := ?_) #[true,true,true,false,true,true,true,false,true,false,true,true,false,false,false,false,false,false,false,false] rfl rfl (any_of HT_.out (by kernel_rfl)) (fun _ _ _ h => h) (Or.inl ⟨by rfl,?_⟩) ?_ ?_
       rotate_left
       ·intro w'
        go_simp
        with_reducible rfl
       rotate_left
       ·simp only [Act.put,List.setIfInBounds_toArray,List.set_cons_zero,List.set_cons_succ,i64_w,i32_w]
        rfl
       refine pure_ (i := 13) (N := some 29) (v := ?_) (a' := ?_) #[true,true,true,false,true,true,true,false,true,false,true,true,false,true,false,false,false,false,false,false] rfl rfl (any_of HT_.out (by kernel_rfl)) (fun _ _ _ h => h) (Or.inl ⟨by rfl,?_⟩) ?_ ?_
       rotate_left
       ·intro w'
        go_simp
        with_reducible rfl
       rotate_left
       ·simp only [Act.put,List.setIfInBounds_toArray,List.set_cons_zero,List.set_cons_succ,i64_w,i32_w]
        rfl
       refine take_ (i := 3) (N := some 19) (v := ?_) (a' := ?_) #[true,true,true,true,true,true,true,false,true,false,true,true,false,true,false,false,false,false,false,false] rfl rfl (take_ofW HT_.out HW_.out (by kernel_rfl)) (fun _ _ _ h => h) (Or.inl ⟨by rfl,?_⟩) hHeld ?_ ?_
       rotate_left
       ·rintro w' ⟨s0,s1,s2,s3,s4⟩
        go_simp
        with_reducible rfl
       rotate_left
       ·simp only [Act.put,List.setIfInBounds_toArray,List.set_cons_zero,List.set_cons_succ,i64_w,i32_w]
        rfl
       refine take_ (i := 7) (N := some 23) (v := ?_) (a' := ?_) #[true,true,true,true,true,true,true,true,true,false,true,true,false,true,false,false,false,false,false,false] rfl rfl (take_ofW HT_.out HW_.out (by kernel_rfl)) (fun _ _ _ h => h) (Or.inl ⟨by rfl,?_⟩) hHeld ?_ ?_
       rotate_left
       ·rintro w' ⟨s0,s1,s2,s3,s4⟩
        go_simp
        with_reducible rfl
       rotate_left
       ·simp only [Act.put,List.setIfInBounds_toArray,List.set_cons_zero,List.set_cons_succ,i64_w,i32_w]
        rfl
       refine take_ (i := 9) (N := some 25) (v := ?_) (a' := ?_) #[true,true,true,true,true,true,true,true,true,true,true,true,false,true,false,false,false,false,false,false] rfl rfl (take_ofW HT_.out HW_.out (by kernel_rfl)) (fun _ _ _ h => h) (Or.inl ⟨by rfl,?_⟩) hHeld ?_ ?_
       rotate_left
       ·rintro w' ⟨s0,s1,s2,s3,s4⟩
        go_simp
        with_reducible rfl
       rotate_left
       ·simp only [Act.put,List.setIfInBounds_toArray,List.set_cons_zero,List.set_cons_succ,i64_w,i32_w]
        rfl
       refine take_ (i := 12) (N := some 28) (v := ?_) (a' := ?_) #[true,true,true,true,true,true,true,true,true,true,true,true,true,true,false,false,false,false,false,false] rfl rfl (take_ofW HT_.out HW_.out (by kernel_rfl)) (fun _ _ _ h => h) (Or.inl ⟨by rfl,?_⟩) hHeld ?_ ?_
       rotate_left
       ·rintro w' ⟨s0,s1,s2,s3,s4⟩
        go_simp
        with_reducible rfl
       rotate_left
       ·simp only [Act.put,List.setIfInBounds_toArray,List.set_cons_zero,List.set_cons_succ,i64_w,i32_w]
        rfl
       refine pure_ (i := 14) (N := some 30) (v := ?_) (a' := ?_) #[true,true,true,true,true,true,true,true,true,true,true,true,true,true,true,false,false,false,false,false] rfl rfl (any_of HT_.out (by kernel_rfl)) (fun _ _ _ h => h) (Or.inl ⟨by rfl,?_⟩) ?_ ?_
       rotate_left
       ·intro w'
        go_simp
        with_reducible rfl
       rotate_left
       ·simp only [Act.put,List.setIfInBounds_toArray,List.set_cons_zero,List.set_cons_succ,i64_w,i32_w]
        rfl
       refine take_ (i := 15) (N := some 31) (v := ?_) (a' := ?_) #[true,true,true,true,true,true,true,true,true,true,true,true,true,true,true,true,false,false,false,false] rfl rfl (take_ofW HT_.out HW_.out (by kernel_rfl)) (fun _ _ _ h => h) (Or.inl ⟨by rfl,?_⟩) hHeld ?_ ?_
       rotate_left
       ·rintro w' ⟨s0,s1,s2,s3,s4⟩
        go_simp
        with_reducible rfl
       rotate_left
       ·simp only [Act.put,List.setIfInBounds_toArray,List.set_cons_zero,List.set_cons_succ,i64_w,i32_w]
        rfl
       refine one_ (i := 16) (N := some 32) #[true,true,true,true,true,true,true,true,true,true,true,true,true,true,true,true,true,false,false,false] rfl rfl (one_of HT_.out (by kernel_rfl)) (by decide) (fun K hK => ?_)
       refine goes_ Try.func70 (by kernel_rfl) rfl #[.int .u64 a0_0,.int .u64 a1,.int .u64 (rd l0_2 x13_1)] (by rfl) rfl rfl (by (try simp only [List.map_toArray,List.map_cons,List.map_nil]);first|done|rfl|(simp only [List.length_drop,List.length_take];rfl)) ?_
       with_reducible refine (field_Mul.calls k1 a0_0 a1 (rd l0_2 x13_1) t243 _ A12.out).mono ?_
       rintro e w' ⟨rfl,⟨nd,rfl⟩⟩
       refine ⟨_,rfl,?_⟩
       refine hK.out _ _ ⟨(blk_cell BK237.out 0).trans rfl,(blk_cell BK237.out 1).trans rfl,(blk_cell BK237.out 2).trans rfl,hHeld.2.2.2.1,((HB.out.cell (World.block_lt_of_cell? w _ hw242_0)).trans hw242_0)⟩ (fun hHeld => ?_)
       clear hK K
       refine norm_ (a' := ?_) ?_ ?_
       rotate_left
       ·show Act.put _ (some 32) _ = _
        simp only [Act.put,List.setIfInBounds_toArray,List.set_cons_zero,List.set_cons_succ,i64_w,i32_w]
        rfl
       refine one_ (i := 17) (N := some 33) #[true,true,true,true,true,true,true,true,true,true,true,true,true,true,true,true,true,true,false,false] rfl rfl (one_of HT_.out (by kernel_rfl)) (by decide) (fun K hK => ?_)
       refine goes_ Try.func69 (by kernel_rfl) rfl #[.int .u64 a0_0,.int .u64 (rd x7_1 x13_1),.int .u64 t243] (by rfl) rfl rfl (by (try simp only [List.map_toArray,List.map_cons,List.map_nil]);first|done|rfl|(simp only [List.length_drop,List.length_take];rfl)) ?_
       with_reducible refine (field_Add.calls k1 a0_0 (rd x7_1 x13_1) t243 t244 _ A13.out).mono ?_
       rintro e w' ⟨rfl,⟨nd,rfl⟩⟩
       refine ⟨_,rfl,?_⟩
       have p14 : 0 ≤ (x13_1 : Int) := of_decide_eq_true (by first|(with_reducible assumption)|assumption)
       have q14 : (x13_1 : Int) < ((x7_1.length : Int) : Int) := of_decide_eq_true (by first|(with_reducible assumption)|assumption)
       obtain ⟨go14,co14,eo14,gb14,gl14,cl14,HG14⟩ := Kd.R_form HO_7.out (by omega)
       (first|cases eo14|(injection eo14 with ea_ en_ ec_;(first|subst ea_|(injection ea_ with ea_;subst ea_));subst ec_;clear en_))
       have GB14 := Aside0.mk gb14
       have GG14 := Aside0.mk HG14
       clear gb14 gl14 HG14
       (first|simp only [add_plain] at hx241_0|skip)
       obtain ⟨hx14_0,hf14_0⟩ := Kd.R_celln 0 HO_7.out (x13_1 : Int) p14 q14
       replace p14 := eq_true p14
       replace q14 := eq_true q14
       have HP16 := Kd.R_putn HO_7.out (x13_1 : Int) t244
       rw [← Ny245.out] at HP16
       have HQ16 := Aside0.mk HP16
       clear HP16
       refine hK.out _ _ ⟨(blk_cell BK237.out 0).trans rfl,(blk_cell BK237.out 1).trans rfl,(blk_cell BK237.out 2).trans rfl,hHeld.2.2.2.1,((HB.out.cell (World.block_lt_of_cell? w _ hw242_0)).trans hw242_0)⟩ (fun hHeld => ?_)
       clear hK K
       refine norm_ (a' := ?_) ?_ ?_
       rotate_left
       ·show Act.put _ (some 33) _ = _
        simp only [Act.put,List.setIfInBounds_toArray,List.set_cons_zero,List.set_cons_succ,i64_w,i32_w]
        rfl
       refine pure_ (i := 18) (N := some 34) (v := ?_) (a' := ?_) #[true,true,true,true,true,true,true,true,true,true,true,true,true,true,true,true,true,true,true,false] rfl rfl (any_of HT_.out (by kernel_rfl)) (fun _ _ _ h => h) (Or.inl ⟨by rfl,?_⟩) ?_ ?_
       rotate_left
       ·intro w'
        go_simp
        with_reducible rfl
       rotate_left
       ·simp only [Act.put,List.setIfInBounds_toArray,List.set_cons_zero,List.set_cons_succ,i64_w,i32_w]
        rfl
       refine last_ (i := 19) (N := none) #[true,true,true,true,true,true,true,true,true,true,true,true,true,true,true,true,true,true,true,true] rfl rfl (one_of HT_.out (by kernel_rfl)) (by decide) (fun K hK => ?_)
       refine skip_ (w1 := ?_) (by rfl) rfl ?_ ?_
       rotate_left
       ·go_simp
        rfl
       refine hK.out _ _ ?_
       clear hK K
       refine done_ (done_of HT_.out (by kernel_rfl)) ?_
       try go_wp2
       (try simp only [← hl7_1])
       go_roundg k1
       case measure => have := HK1.out;omega
       case rel => exact ⟨(y245),(wrap64 (x13_1 + 1)),(by first|rfl|(simp;done)|(simp [*];done)),H',⟨by have := HK1.out;omega⟩,⟨by (try simp only [hl7_1]);(with_reducible repeat (first|apply Kd.R_alloc|apply Kd.R_drewN|apply Kd.R_drew));exact HQ16.out⟩,⟨by (try simp only [hl7_1]);(with_reducible repeat (first|refine blk_drewN ?_ _|refine blk_drew ?_|refine blk_alloc ?_ _));refine blk_far ?_ (by have h_ := Kd.R_ne HO_7.out BK237.out (by decide);intro e_;exact h_ (by rw [e_];rfl)) _;(with_reducible repeat (first|refine blk_drewN ?_ _|refine blk_drew ?_|refine blk_alloc ?_ _));exact BK237.out⟩,⟨by repeat (first|(with_reducible first|exact HB.out|apply below_alloc|apply pw_below_drewN|apply below_drew1|refine below_set ?_ GB14.out|refine below_set ?_ GE237.out)|exact HB.out)⟩⟩
      ·rw [if_neg c11] at H
       exact absurd H (by simp)
     ·rw [if_neg c10] at H
      exact absurd H (by simp)
    ·rw [if_neg c9] at H
     exact absurd H (by simp)
   ·rw [if_neg c8] at H
    have c8b0 : decide (x13_1 < (t238.length : Int)) = false := decide_eq_false c8
    try have c8b0_ : decide (x13_1 < (x7_1.length : Int)) = false := by rw [← hl7_1];exact c8b0
    clear c8
    obtain rfl := Option.some.inj H
    go_wp2
    go_ret
    exact ⟨_,by first|rfl|(simp [errW_none,errW_some] <;> rfl)|(simp [*,errW_none,errW_some] <;> rfl),by (with_reducible repeat (first|apply Kd.R_alloc|apply Kd.R_drewN|apply Kd.R_drew));exact HO_7.out,by repeat (first|(with_reducible first|exact HB.out|apply below_alloc|apply pw_below_drewN|apply below_drew1|refine below_set ?_ GE237.out)|exact HB.out)⟩
end Go.Proofs.Ytejeelpnmdfibaa.Pr
end
section
/- Printed by a program of this seat (the kit's printer, with the functions that were proved by hand given to it). What stands here: the functions that the statements reach, as plain functions, and that the Go code computes them. -/
namespace Go.Proofs.Ytejeelpnmdfibaa.Pr
open Go.RowKit Go.Proofs.YtejeelpnmdfibaaW.PrintWords Go.Proofs.YtejeelpnmdfibaaW.PrintLast Go.Proofs.YtejeelpnmdfibaaW.PrintMore
attribute [local go_sem] max2_int min2_int max_two min_two max_three min_three max_four min_four   -- for this text's walks alone
set_option linter.unusedVariables false
set_option linter.unusedSimpArgs false

open Go.Proofs.Ytejeelpnmdfibaa.Hw
/-! ### privityref04_Mul: function 77 -/
end Go.Proofs.Ytejeelpnmdfibaa.Pr
end
section
/- Printed by a program of this seat (the kit's printer, with the functions that were proved by hand given to it). What stands here: the functions that the statements reach, as plain functions, and that the Go code computes them. -/
namespace Go.Proofs.Ytejeelpnmdfibaa.Pr
open Go.RowKit Go.Proofs.YtejeelpnmdfibaaW.PrintWords Go.Proofs.YtejeelpnmdfibaaW.PrintLast Go.Proofs.YtejeelpnmdfibaaW.PrintMore
attribute [local go_sem] max2_int min2_int max_two min_two max_three min_three max_four min_four   -- for this text's walks alone
set_option linter.unusedVariables false
set_option linter.unusedSimpArgs false

open Go.Proofs.Ytejeelpnmdfibaa.Hw
/-! ### privityref04_Coefficient: function 57 -/
/-! ### privityref04_Add: function 59 -/
/-! ### privityref04_Scale: function 60 -/
/-! ### privityref04_Sub: function 88 -/
end Go.Proofs.Ytejeelpnmdfibaa.Pr
end
section
/-
  The reference of layer 4: what its printed functions answer.
-/
namespace Go.Proofs.Ytejeelpnmdfibaa.E
open Go.RowKit Go.Proofs.Ytejeelpnmdfibaa.Pr Go.Proofs.Ytejeelpnmdfibaa.Hw Go.Proofs.Ytejeelpnmdfibaa.Pl Go.Proofs.YtejeelpnmdfibaaW.PrintWords Go.Proofs.YtejeelpnmdfibaaW.PrintLast Go.Proofs.YtejeelpnmdfibaaW.PrintMore
set_option linter.unusedVariables false
set_option linter.unusedSimpArgs false

theorem getD_out (l : List Int) (j : Nat) (h : l.length ≤ j) : l.getD j 0 = 0 := by rw [List.getD_eq_getElem?_getD, List.getElem?_eq_none h]; rfl
theorem res_getD {p : Int} (hp : Supp p) {l : List Int} (hl : ∀ x ∈ l, Res p x) (i : Nat) : Res p (l.getD i 0) := by
  have hb := hp.bd
  by_cases hi : i < l.length
  · rw [Hw.getD_in _ _ hi]; exact hl _ (List.getElem_mem hi)
  · rw [getD_out l i (by omega)]; exact ⟨Int.le_refl 0, by show (0 : Int) < p; omega⟩
/-! ### Coefficients of what the program adds up -/
/-! ### Sum -/
/-! ### Scale -/
/-! ### Eval -/
theorem list_ext_getD {a b : List Int} (hl : a.length = b.length) (h : ∀ i, a.getD i 0 = b.getD i 0) : a = b := by
  apply List.ext_getElem hl
  intro i h1 h2
  have := h i
  rwa [Hw.getD_in _ _ h1, Hw.getD_in _ _ h2] at this
end Go.Proofs.Ytejeelpnmdfibaa.E
end
section
/-
  Square matrices as bivariate polynomials: rows, symmetry, translation, uniqueness; plainly.
-/
namespace Go.Proofs.Ytejeelpnmdfibaa.E
open Go.RowKit Go.Proofs.Ytejeelpnmdfibaa.Pr Go.Proofs.Ytejeelpnmdfibaa.Hw Go.Proofs.Ytejeelpnmdfibaa.Pl Go.Proofs.YtejeelpnmdfibaaW.PrintWords Go.Proofs.YtejeelpnmdfibaaW.PrintLast Go.Proofs.YtejeelpnmdfibaaW.PrintMore
set_option linter.unusedVariables false
set_option linter.unusedSimpArgs false

/-- A list by its entries. -/
def tabL (n : Nat) (h : Nat → Int) : List Int := (List.range n).map h
theorem tabL_length (n : Nat) (h : Nat → Int) : (tabL n h).length = n := by simp [tabL]
theorem tabL_succ (n : Nat) (h : Nat → Int) : tabL (n + 1) h = tabL n h ++ [h n] := by simp [tabL, List.range_succ]
theorem tabL_getD (n : Nat) (h : Nat → Int) (i : Nat) : (tabL n h).getD i 0 = if i < n then h i else 0 := by
  unfold tabL
  rw [List.getD_eq_getElem?_getD]
  by_cases hi : i < n
  · rw [if_pos hi, List.getElem?_map, List.getElem?_range hi]; rfl
  · rw [if_neg hi, List.getElem?_eq_none (by simpa using hi)]; rfl
theorem tabL_res {p : Int} {n : Nat} {h : Nat → Int} (hr : ∀ i, i < n → Res p (h i)) : ∀ x ∈ tabL n h, Res p x := fun x hx => by
  obtain ⟨i, hi, rfl⟩ := List.mem_map.1 hx
  exact hr i (List.mem_range.1 hi)
theorem tabL_congr {n : Nat} {h g : Nat → Int} (e : ∀ i, i < n → h i = g i) : tabL n h = tabL n g := List.map_congr_left fun i hi => e i (List.mem_range.1 hi)
theorem tabL_of (l : List Int) : tabL l.length (fun i => l.getD i 0) = l := by
  refine list_ext_getD (tabL_length _ _) fun i => ?_
  rw [tabL_getD]
  split
  · rfl
  · exact (getD_out l i (by omega)).symm
/-- A matrix by its entries. -/
def at2 (s : List (List Int)) (i j : Nat) : Int := (s.getD i []).getD j 0
def matP (n : Nat) (g : Nat → Nat → Int) (k : Nat) : List (List Int) := (List.range k).map fun i => tabL n (g i)
def matL (n : Nat) (g : Nat → Nat → Int) : List (List Int) := matP n g n
theorem matP_length (n : Nat) (g : Nat → Nat → Int) (k : Nat) : (matP n g k).length = k := by simp [matP]
theorem matP_getD (n : Nat) (g : Nat → Nat → Int) (k i : Nat) (hi : i < k) : (matP n g k).getD i [] = tabL n (g i) := by
  unfold matP
  rw [List.getD_eq_getElem?_getD, List.getElem?_map, List.getElem?_range hi]; rfl
structure Sq (n : Nat) (s : List (List Int)) : Prop where
  len : s.length = n
  row : ∀ r ∈ s, r.length = n
theorem Sq.getD {n : Nat} {s : List (List Int)} (h : Sq n s) (i : Nat) (hi : i < n) : (s.getD i []).length = n := by
  have hl := h.len
  rw [List.getD_eq_getElem?_getD, List.getElem?_eq_getElem (by omega)]
  exact h.row _ (List.getElem_mem _)
theorem matL_sq (n : Nat) (g : Nat → Nat → Int) : Sq n (matL n g) := ⟨matP_length _ _ _, fun r hr => by
  obtain ⟨i, _, rfl⟩ := List.mem_map.1 hr
  exact tabL_length _ _⟩
theorem Sq.eq {n : Nat} {s : List (List Int)} (h : Sq n s) : s = matL n (at2 s) := by
  have hl := h.len
  refine List.ext_getElem (by rw [(matL_sq n (at2 s)).len, hl]) fun i h1 h2 => ?_
  have e1 : s[i] = s.getD i [] := by rw [List.getD_eq_getElem?_getD, List.getElem?_eq_getElem h1]; rfl
  have e2 : (matL n (at2 s))[i] = (matL n (at2 s)).getD i [] := by rw [List.getD_eq_getElem?_getD, List.getElem?_eq_getElem h2]; rfl
  rw [e1, e2]
  unfold matL
  rw [matP_getD _ _ _ _ (by omega)]
  have := h.getD i (by omega)
  exact (tabL_of (s.getD i [])).symm.trans (by rw [this]; rfl)
def ResM (p : Int) (s : List (List Int)) : Prop := ∀ r ∈ s, ∀ x ∈ r, Res p x
theorem ResM.at2 {p : Int} (hp : Supp p) {s : List (List Int)} (h : ResM p s) (i j : Nat) : Res p (at2 s i j) := by
  unfold E.at2
  refine res_getD hp (fun x hx => ?_) j
  rw [List.getD_eq_getElem?_getD] at hx
  by_cases hi : i < s.length
  · rw [List.getElem?_eq_getElem hi] at hx; exact h _ (List.getElem_mem hi) x hx
  · rw [List.getElem?_eq_none (by omega)] at hx; cases hx
theorem evI_zero' {p : Int} (hp : Supp p) {l : List Int} (hl : ∀ x ∈ l, Res p x) : evI p 0 l = l.getD 0 0 := by
  cases l with
  | nil => rfl
  | cons c l => show (evI p 0 l * 0 % p + c) % p = c; rw [Int.mul_zero, Int.zero_emod, Int.zero_add]; exact (hl c (by simp)).eq
section
variable {p : Int} (hp : Supp p) [NeZero p.toNat]
theorem sumF_add (f g : Nat → Fin p.toNat) : ∀ n, sumF (fun i => f i + g i) n = sumF f n + sumF g n
  | 0 => by simp only [sumF]; grind
  | n + 1 => by simp only [sumF]; rw [sumF_add f g n]; grind
theorem sumF_mul (c : Fin p.toNat) (f : Nat → Fin p.toNat) : ∀ n, sumF (fun i => c * f i) n = c * sumF f n
  | 0 => by simp only [sumF]; grind
  | n + 1 => by simp only [sumF]; rw [sumF_mul c f n]; grind
theorem ev_tab (x : Fin p.toNat) (h : Nat → Int) : ∀ n, ev x (M p (tabL n h)) = sumF (fun i => T p (h i) * mono x i) n
  | 0 => rfl
  | n + 1 => by
    rw [tabL_succ]
    have e : M p (tabL n h ++ [h n]) = M p (tabL n h) ++ [T p (h n)] := by unfold M; rw [List.map_append]; rfl
    rw [e, ev_append, M_length, tabL_length, ev_tab x h n]
    simp only [ev, sumF]
    grind
end
end Go.Proofs.Ytejeelpnmdfibaa.E
end
section
/-
  New of package bivariate, proved by hand: the matrix that it makes.
-/
namespace Go.Proofs.Ytejeelpnmdfibaa.Hw
open Go.RowKit Go.Proofs.Ytejeelpnmdfibaa.Pr Go.Proofs.YtejeelpnmdfibaaW.PrintWords Go.Proofs.YtejeelpnmdfibaaW.PrintLast Go.Proofs.YtejeelpnmdfibaaW.PrintMore Go.Proofs.Ytejeelpnmdfibaa.E
set_option linter.unusedVariables false
set_option linter.unusedSimpArgs false

/-! A square matrix of the call's own: the outer row at block bo, row i at block bo + 1 + i. -/
def slR (bo n i : Nat) : Value := .slice (some ⟨bo + 1 + i, 0, none⟩) n n
def outC (bo n k : Nat) : List Value := (List.range n).map fun i => if i < k then slR bo n i else .slice none 0 0
def rowC (n : Nat) (h : Nat → Int) : List Value := (List.range n).map fun j => .int .u64 (h j)
theorem outC_get {bo n k i : Nat} (hi : i < n) : (outC bo n k)[i]? = some (if i < k then slR bo n i else .slice none 0 0) := by
  unfold outC; rw [List.getElem?_map, List.getElem?_range hi]; rfl
theorem rowC_get {n j : Nat} {h : Nat → Int} (hj : j < n) : (rowC n h)[j]? = some (.int .u64 (h j)) := by
  unfold rowC; rw [List.getElem?_map, List.getElem?_range hj]; rfl
theorem outC_length (bo n k : Nat) : (outC bo n k).length = n := by simp [outC]
theorem rowC_length (n : Nat) (h : Nat → Int) : (rowC n h).length = n := by simp [rowC]
structure Mx (w : World) (bo n k : Nat) (g : Nat → Nat → Int) : Prop where
  out : w.heap[bo]? = some (.cells (outC bo n k).toArray 26 (0, 0))
  row : ∀ i, i < k → w.heap[bo + 1 + i]? = some (.cells (rowC n (g i)).toArray 22 (0, 0))
def upd (g : Nat → Nat → Int) (i j : Nat) (x : Int) (a b : Nat) : Int := if a = i ∧ b = j then x else g a b
section
variable {w : World} {bo n k : Nat} {g : Nat → Nat → Int}
theorem Mx.drew (h : Mx w bo n k g) : Mx w.drew bo n k g := ⟨h.out, h.row⟩
theorem Mx.drewN (h : Mx w bo n k g) (m : Nat) : Mx (w.drewN m) bo n k g := ⟨h.out, h.row⟩
theorem Mx.congr (h : Mx w bo n k g) {g' : Nat → Nat → Int} (e : ∀ i, i < k → ∀ j, j < n → g i j = g' i j) : Mx w bo n k g' :=
  ⟨h.out, fun i hi => by
    rw [h.row i hi]
    have : rowC n (g i) = rowC n (g' i) := List.map_congr_left fun j hj => by rw [e i hi j (List.mem_range.1 hj)]
    rw [this]⟩
theorem Mx.put (h : Mx w bo n k g) {i j : Nat} (hi : i < k) (hj : j < n) (x : Int) : Mx (w.setCell ⟨bo + 1 + i, j, none⟩ (.int .u64 x)) bo n k (upd g i j x) := by
  refine ⟨blk_far (p := ⟨bo + 1 + i, j, none⟩) h.out (by show bo ≠ bo + 1 + i; omega) _, fun a ha => ?_⟩
  by_cases e : a = i
  · subst e
    refine blk_put (h.row a ha) j _ ?_
    rw [List.setIfInBounds_toArray]
    congr 1
    refine List.ext_getElem? fun b => ?_
    by_cases hb : b < n
    · rw [rowC_get hb]
      by_cases e2 : b = j
      · subst e2
        rw [List.getElem?_set_self (by rw [rowC_length]; exact hb)]
        simp [upd]
      · rw [List.getElem?_set_ne (Ne.symm e2), rowC_get hb]
        simp [upd, e2]
    · rw [List.getElem?_eq_none (by rw [List.length_set, rowC_length]; omega), List.getElem?_eq_none (by rw [rowC_length]; omega)]
  · have h1 := blk_far (p := ⟨bo + 1 + i, j, none⟩) (h.row a ha) (by show bo + 1 + a ≠ bo + 1 + i; omega) (.int .u64 x)
    rw [h1]
    have : upd g i j x a = g a := by funext b; simp [upd, e]
    rw [this]
theorem Mx.more (h : Mx w bo n k g) (hk : k < n) (hs : w.heap.size = bo + 1 + k) (hz : ∀ j, g k j = 0) :
    Mx ((w.alloc (.cells (rowC n fun _ => 0).toArray 22)).setCell ⟨bo, k, none⟩ (slR bo n k)) bo n (k + 1) g := by
  refine ⟨?_, fun i hi => ?_⟩
  · refine blk_put (blk_alloc h.out _) k _ ?_
    rw [List.setIfInBounds_toArray]
    congr 1
    refine List.ext_getElem? fun b => ?_
    by_cases hb : b < n
    · rw [outC_get hb]
      by_cases e2 : b = k
      · subst e2
        rw [List.getElem?_set_self (by rw [outC_length]; exact hb), if_pos (by omega)]
      · rw [List.getElem?_set_ne (Ne.symm e2), outC_get hb]
        by_cases h3 : b < k
        · rw [if_pos h3, if_pos (by omega)]
        · rw [if_neg h3, if_neg (by omega)]
    · rw [List.getElem?_eq_none (by rw [List.length_set, outC_length]; omega), List.getElem?_eq_none (by rw [outC_length]; omega)]
  · by_cases e : i = k
    · subst e
      have h1 := blk_new w (Obj.cells (rowC n fun _ => 0).toArray 22)
      rw [hs] at h1
      have h2 : g i = fun _ => 0 := funext hz
      rw [h2]
      exact blk_far (p := ⟨bo, i, none⟩) h1 (by show bo + 1 + i ≠ bo; omega) _
    · exact blk_far (p := ⟨bo, k, none⟩) (blk_alloc (h.row i (by omega)) _) (by show bo + 1 + i ≠ bo; omega) _
theorem Mx.own (h : Mx w bo n n g) {base : Nat} (hb : base ≤ bo) (hn : n ≤ 1000000) : Kd.S (Kd.slice 22 (Kd.int .u64)) 26 w base (fun _ => True) (.slice (some ⟨bo, 0, none⟩) n n) (matL n g) := by
  have hl : (matL n g).length = n := (matL_sq n g).len
  refine ⟨fun b => b - (bo + 1), fun _ _ => trivial, outC bo n n, ?_, ?_, fun j p hj => ?_⟩
  · rw [List.length_zipIdx, hl]
    refine ⟨by show (outC bo n n).length = n * 1; rw [outC_length]; omega, .inr ⟨bo, n, (outC bo n n).toArray, rfl, hb, h.out, Nat.le_refl _, by simp only [maxLen]; omega, by show (outC bo n n).toArray.size = n * 1; rw [List.size_toArray, outC_length]; omega, ?_⟩⟩
    show ((outC bo n n).take (n * 1)) = outC bo n n
    exact List.take_of_length_le (by rw [outC_length]; omega)
  · rw [List.length_zipIdx, hl]; show (outC bo n n).length = n * 1; rw [outC_length]; omega
  · rw [List.getElem?_zipIdx, Nat.zero_add] at hj
    obtain ⟨r, hr, rfl⟩ := Option.map_eq_some_iff.1 hj
    have hjn : j < n := by have := (List.getElem?_eq_some_iff.1 hr).1; omega
    have hrow : r = tabL n (g j) := by
      unfold matL matP at hr
      rw [List.getElem?_map, List.getElem?_range hjn] at hr
      exact (Option.some.inj hr).symm
    have hcs : ((outC bo n n).drop (j * 1)).take 1 = [slR bo n j] := by
      refine List.ext_getElem? fun i => ?_
      rw [List.getElem?_take]
      cases i with
      | zero => rw [if_pos (by omega), List.getElem?_drop, Nat.add_zero, Nat.mul_one, outC_get hjn, if_pos hjn]; rfl
      | succ i => rw [if_neg (by omega)]; rfl
    show ∃ v, ((outC bo n n).drop (j * 1)).take 1 = [v] ∧ _
    refine ⟨slR bo n j, hcs, ?_⟩
    have hlen : (tabL n (g j)).length = n := tabL_length _ _
    show Kd.R (Kd.int .u64) 22 w base _ (slR bo n j) r
    rw [hrow]
    refine R_made ?_ (fun b hbk => ?_)
    · rw [hlen]
      have hnm : nums .u64 (tabL n (g j)) = rowC n (g j) := by simp [nums, tabL, rowC]
      rw [hnm]
      refine ⟨by rw [rowC_length]; omega, .inr ⟨bo + 1 + j, n, (rowC n (g j)).toArray, rfl, by omega, h.row j hjn, Nat.le_refl _, by simp only [maxLen]; omega, by rw [List.size_toArray, rowC_length]; omega, ?_⟩⟩
      show (rowC n (g j)).take (n * 1) = _
      exact List.take_of_length_le (by rw [rowC_length]; omega)
    · have e : b = bo + 1 + j := by
        have : (slR bo n j).ownBlock = some (bo + 1 + j) := rfl
        rw [this] at hbk; exact (Option.some.inj hbk).symm
      subst e
      refine ⟨⟨trivial, fun e => ?_⟩, by show bo + 1 + j - (bo + 1) = j; omega⟩
      have e2 : some (bo + 1 + j) = some bo := e
      injection e2 with e2; omega
end
theorem Mx.start (w : World) (n : Nat) : Mx (w.alloc (.cells (outC w.heap.size n 0).toArray 26)) w.heap.size n 0 (fun _ _ => 0) :=
  ⟨blk_new w _, fun i hi => by omega⟩
end Go.Proofs.Ytejeelpnmdfibaa.Hw
end
