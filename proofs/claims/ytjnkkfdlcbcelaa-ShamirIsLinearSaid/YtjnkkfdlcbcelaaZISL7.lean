/- The row of the law ShamirIsLinear, out of its plain law and the walk. -/
import Derived.Test.YtjnkkfdlcbcelaaZISL6
import Derived.Test.YtjnkkfdlcbcelaaZISL5
import Derived.Test.YtjnkkfdlcbcelaaZISL1
import Derived.Test.YtjnkkfdlcbcelaaProg
import Derived.ChangeArms
import Derived.DataReads
import Derived.DataElems
import Derived.ShutString
import Derived.ChangeSame
import Derived.OpenShut
import Derived.Test.YtjnkkfdlcbcelaaZISL0
import Derived.Test.YtjnkkfdlcbcelaaRows
import Derived.WalkKit
import Derived.ProofKit
import Derived.ChangeOld
import Derived.Below
import Derived.SizedLaws
set_option linter.unusedVariables false
set_option linter.unusedSimpArgs false
section
namespace Go.Proofs.Ytjnkkfdlcbcelaa.Hw
open Go.RowKit Go.Proofs.Ytjnkkfdlcbcelaa.Pr Go.Proofs.YtjnkkfdlcbcelaaW.PrintWords Go.Proofs.YtjnkkfdlcbcelaaW.PrintLast Go.Proofs.YtjnkkfdlcbcelaaW.PrintMore Go.Proofs.Ytjnkkfdlcbcelaa.E
def IslM (gs gq gk : Nat) (P N T : Int) (u0 u1 : Value) (k0 k1 : Int) (w : World) : Prop :=
 w.heap[gs]? = some (.cells #[.int .u64 P,.int .i64 N,.int .i64 T] 24 (0,0)) ∧ w.heap[gq]? = some (.cells #[u0,u1] 42 (0,0)) ∧ w.heap[gk]? = some (.cells #[.int .u64 k0,.int .u64 k1] 43 (0,0))
theorem IslM.below {gs gq gk : Nat} {P N T : Int} {u0 u1 : Value} {k0 k1 : Int} {w w1 : World} (h : IslM gs gq gk P N T u0 u1 k0 k1 w) (hb : Below w.heap.size w w1) : IslM gs gq gk P N T u0 u1 k0 k1 w1 :=
 ⟨blk_below h.1 hb,blk_below h.2.1 hb,blk_below h.2.2 hb⟩
theorem IslM.grown {gs gq gk : Nat} {P N T : Int} {u0 u1 : Value} {k0 k1 : Int} {w w1 : World} (h : IslM gs gq gk P N T u0 u1 k0 k1 w) {row : Option Nat} (hg : w.grownBy w1 row) (h1 : some gs ≠ row) (h2 : some gq ≠ row) (h3 : some gk ≠ row) : IslM gs gq gk P N T u0 u1 k0 k1 w1 :=
 ⟨blk_grown h.1 hg h1,blk_grown h.2.1 hg h2,blk_grown h.2.2 hg h3⟩
theorem IslM.cells {gs gq gk : Nat} {P N T : Int} {u0 u1 : Value} {k0 k1 : Int} {w : World} (h : IslM gs gq gk P N T u0 u1 k0 k1 w) :
  w.cell? ⟨gs,0,none⟩ = some (.int .u64 P) ∧ w.cell? ⟨gs,1,none⟩ = some (.int .i64 N) ∧ w.cell? ⟨gs,2,none⟩ = some (.int .i64 T) ∧ w.cell? ⟨gq,0,none⟩ = some u0 ∧ w.cell? ⟨gq,1,none⟩ = some u1 ∧ w.cell? ⟨gk,0,none⟩ = some (.int .u64 k0) ∧ w.cell? ⟨gk,1,none⟩ = some (.int .u64 k1) :=
 ⟨(blk_cell h.1 0).trans rfl,(blk_cell h.1 1).trans rfl,(blk_cell h.1 2).trans rfl,(blk_cell h.2.1 0).trans rfl,(blk_cell h.2.1 1).trans rfl,(blk_cell h.2.2 0).trans rfl,(blk_cell h.2.2 1).trans rfl⟩
theorem below_drawn {w w1 : World} (h : Drawn0 w w1) : Below w.heap.size w w1 := by
 obtain ⟨nd,rfl⟩ := h
 exact pw_below_drewN (Below.refl _ _) nd
def shrR (m : Nat) (l : List Int) : List (List Int) := l.map fun y => (List.replicate m 0).set 0 y
theorem shrR_length (m : Nat) (l : List Int) : (shrR m l).length = l.length := by simp [shrR]
theorem shrR_next (m : Nat) (l : List Int) (i : Nat) (h : i < l.length) : shrR m (l.take i) ++ [(List.replicate m 0).set 0 (rd l (i : Int))] = shrR m (l.take (i + 1)) := by
 unfold shrR
 rw [List.take_succ_eq_append_getElem h,List.map_append,rd_nat,getD_in _ _ h];rfl
def islP (l : List (List Int)) (n : Nat) : List S49 := (List.range n).map fun (i : Nat) => (⟨(i : Int) + 1,(l.getD i []).getD 0 0⟩ : S49)
theorem islP_next (l : List (List Int)) (n : Nat) : islP l n ++ [(⟨(n : Int) + 1,(l.getD n []).getD 0 0⟩ : S49)] = islP l (n + 1) := by
 unfold islP;rw [List.range_succ,List.map_append];rfl
theorem islP_length (l : List (List Int)) (n : Nat) : (islP l n).length = n := by simp [islP]
section
variable (P N T : Int) (A0 : Option Addr) (c0 : Nat) (l0 : List Int) (A1 : Option Addr) (c1 : Nat) (l1 : List Int) (k0 k1 : Int) (k : Nat) (w : World)
 (hr0 : Aside0 (Kd.C (Kd.int .u64) w A0 l0.length l0)) (hc0 : l0.length ≤ c0) (hr1 : Aside0 (Kd.C (Kd.int .u64) w A1 l1.length l1)) (hc1 : l1.length ≤ c1)
 (ha : Aside0 (privitylaw09_awake.f k = some true)) (b1 b2 b5 b6 : Bool) (hsu : Aside0 (privityref01_Supported.f k P = some b1)) (hse : Aside0 (privitylaw09_setups.f P N T = some b2))
 (hb0 : Aside0 (l0.length ≤ 13 → privityref05_Below.f k P l0 = some b5)) (hb1 : Aside0 (l1.length ≤ 13 → privityref05_Below.f k P l1 = some b6))
include hr0 hc0 hr1 hc1 ha hsu hse hb0 hb1
set_option maxHeartbeats 4000000 in
set_option maxRecDepth 100000 in
theorem isl_skip (hsm : Aside0 (b2 = true → 0 ≤ T ∧ T ≤ 12)) (h : ¬ (b1 = true ∧ b2 = true ∧ (l0.length : Int) = wrap64 (T + 1) ∧ (l1.length : Int) = wrap64 (T + 1) ∧ b5 = true ∧ b6 = true ∧ k0 < P ∧ k1 < P)) :
  Calls Try.prog 4 #[.agg #[.int .u64 P,.int .i64 N,.int .i64 T],.agg #[.slice A0 l0.length c0,.slice A1 l1.length c1],.agg #[.int .u64 k0,.int .u64 k1]] w fun e w' => e = .returned (.bool true) ∧ Below w.heap.size w w' := by
 obtain ⟨j,hj⟩ : ∃ j,j = IntKind.i64.wrap (T + 1) := ⟨_,rfl⟩
 have hjw : wrap64 (T + 1) = j := by rw [hj];exact (i64_w _).symm
 rw [hjw] at h
 have hj' := hj.symm
 have HJ := Aside0.mk hjw
 clear hj hjw
 cases b1 with
 | false =>
  clear h
  go_enter Try.func4,Try.ntmps4
  go_wp2_with (first
   | ((with_reducible refine gate_dst (N := 3) rfl ?_);refine box_event ?hg (N := 3) ?hd (cs := #[.int .u64 P,(.int .i64 N),(.int .i64 T)]) (t := 24) ?hr ?_;(case hd => rfl);(case hg => rfl);(case hr => first|(go_simp;done)|(go_simp;rfl));intro gs hgs w1 hbox1 hb1)
   | ((with_reducible refine gate_dst (N := 4) rfl ?_);refine box_event ?hg (N := 4) ?hd (cs := #[.slice A0 l0.length c0,.slice A1 l1.length c1]) (t := 42) ?hr ?_;(case hd => rfl);(case hg => rfl);(case hr => first|(go_simp;done)|(go_simp;rfl));intro gq hgq w2 hbox2 hb2)
   | ((with_reducible refine gate_dst (N := 5) rfl ?_);refine box_event ?hg (N := 5) ?hd (cs := #[.int .u64 k0,.int .u64 k1]) (t := 43) ?hr ?_;(case hd => rfl);(case hg => rfl);(case hr => first|(go_simp;done)|(go_simp;rfl));intro gz hgz w3 hbox3 hb3;have HB := Aside0.mk (below_step (below_step hb1 hb2) hb3);have HM := Aside0.mk (show IslM gs gq gz P N T (.slice A0 l0.length c0) (.slice A1 l1.length c1) k0 k1 w3 from ⟨blk_below (blk_below hbox1 hb2) hb3,blk_below hbox2 hb3,hbox3⟩);have HG := Aside0.mk (show w.heap.size ≤ gs ∧ w.heap.size ≤ gq ∧ w.heap.size ≤ gz from ⟨by omega,by have := hb1.size;omega,by have := hb1.size;have := hb2.size;omega⟩);clear hgs hbox1 hb1 hgq hbox2 hb2 hgz hbox3 hb3)
   | (go_at_call 6;(with_reducible refine (privitylaw09_awake.calls k true _ ha.out).mono ?_);rintro e w4 ⟨rfl,hb⟩;have n1 := Aside0.mk (HM.out.below hb);have n2 := Aside0.mk (below_step HB.out hb);clear HM HB hb;have HM := n1;have HB := n2;clear n1 n2;obtain ⟨ca0,ca1,ca2,ca3,ca4,ca5,ca6⟩ := HM.out.cells)
   | (go_at_call 7;(with_reducible refine (privityref01_Supported.calls k _ _ _ hsu.out).mono ?_);rintro e w5 ⟨rfl,hb⟩;have n1 := Aside0.mk (HM.out.below hb);have n2 := Aside0.mk (below_step HB.out hb);clear HM HB hb;have HM := n1;have HB := n2;clear n1 n2;obtain ⟨cb0,cb1,cb2,cb3,cb4,cb5,cb6⟩ := HM.out.cells)
   | (go_at_call 9;(with_reducible refine (privitylaw09_setups.calls _ _ _ _ _ hse.out).mono ?_);rintro e w6 ⟨rfl,hb⟩;have n1 := Aside0.mk (HM.out.below hb);have n2 := Aside0.mk (below_step HB.out hb);clear HM HB hb;have HM := n1;have HB := n2;clear n1 n2;obtain ⟨cc0,cc1,cc2,cc3,cc4,cc5,cc6⟩ := HM.out.cells)
   | (go_at_call 22;(with_reducible refine (privityref05_Below.calls k _ _ _ _ _ _ (Kd.C_below hr0.out HB.out) hc0 (hb0.out hle0.out)).mono ?_);rintro e w7 ⟨rfl,hd⟩;have hb := below_drawn hd;clear hd;have n1 := Aside0.mk (HM.out.below hb);have n2 := Aside0.mk (below_step HB.out hb);clear HM HB hb;have HM := n1;have HB := n2;clear n1 n2;obtain ⟨cd0,cd1,cd2,cd3,cd4,cd5,cd6⟩ := HM.out.cells)
   | (go_at_call 22;(with_reducible refine (privityref05_Below.calls k _ _ _ _ _ _ (Kd.C_below hr1.out HB.out) hc1 (hb1.out hle1.out)).mono ?_);rintro e w8 ⟨rfl,hd⟩;have hb := below_drawn hd;clear hd;have n1 := Aside0.mk (HM.out.below hb);have n2 := Aside0.mk (below_step HB.out hb);clear HM HB hb;have HM := n1;have HB := n2;clear n1 n2;obtain ⟨ce0,ce1,ce2,ce3,ce4,ce5,ce6⟩ := HM.out.cells))
  go_ret
  exact ⟨rfl,HB.out⟩
 | true =>
 cases b2 with
 | false =>
  clear h
  go_enter Try.func4,Try.ntmps4
  go_wp2_with (first
   | ((with_reducible refine gate_dst (N := 3) rfl ?_);refine box_event ?hg (N := 3) ?hd (cs := #[.int .u64 P,(.int .i64 N),(.int .i64 T)]) (t := 24) ?hr ?_;(case hd => rfl);(case hg => rfl);(case hr => first|(go_simp;done)|(go_simp;rfl));intro gs hgs w1 hbox1 hb1)
   | ((with_reducible refine gate_dst (N := 4) rfl ?_);refine box_event ?hg (N := 4) ?hd (cs := #[.slice A0 l0.length c0,.slice A1 l1.length c1]) (t := 42) ?hr ?_;(case hd => rfl);(case hg => rfl);(case hr => first|(go_simp;done)|(go_simp;rfl));intro gq hgq w2 hbox2 hb2)
   | ((with_reducible refine gate_dst (N := 5) rfl ?_);refine box_event ?hg (N := 5) ?hd (cs := #[.int .u64 k0,.int .u64 k1]) (t := 43) ?hr ?_;(case hd => rfl);(case hg => rfl);(case hr => first|(go_simp;done)|(go_simp;rfl));intro gz hgz w3 hbox3 hb3;have HB := Aside0.mk (below_step (below_step hb1 hb2) hb3);have HM := Aside0.mk (show IslM gs gq gz P N T (.slice A0 l0.length c0) (.slice A1 l1.length c1) k0 k1 w3 from ⟨blk_below (blk_below hbox1 hb2) hb3,blk_below hbox2 hb3,hbox3⟩);have HG := Aside0.mk (show w.heap.size ≤ gs ∧ w.heap.size ≤ gq ∧ w.heap.size ≤ gz from ⟨by omega,by have := hb1.size;omega,by have := hb1.size;have := hb2.size;omega⟩);clear hgs hbox1 hb1 hgq hbox2 hb2 hgz hbox3 hb3)
   | (go_at_call 6;(with_reducible refine (privitylaw09_awake.calls k true _ ha.out).mono ?_);rintro e w4 ⟨rfl,hb⟩;have n1 := Aside0.mk (HM.out.below hb);have n2 := Aside0.mk (below_step HB.out hb);clear HM HB hb;have HM := n1;have HB := n2;clear n1 n2;obtain ⟨ca0,ca1,ca2,ca3,ca4,ca5,ca6⟩ := HM.out.cells)
   | (go_at_call 7;(with_reducible refine (privityref01_Supported.calls k _ _ _ hsu.out).mono ?_);rintro e w5 ⟨rfl,hb⟩;have n1 := Aside0.mk (HM.out.below hb);have n2 := Aside0.mk (below_step HB.out hb);clear HM HB hb;have HM := n1;have HB := n2;clear n1 n2;obtain ⟨cb0,cb1,cb2,cb3,cb4,cb5,cb6⟩ := HM.out.cells)
   | (go_at_call 9;(with_reducible refine (privitylaw09_setups.calls _ _ _ _ _ hse.out).mono ?_);rintro e w6 ⟨rfl,hb⟩;have n1 := Aside0.mk (HM.out.below hb);have n2 := Aside0.mk (below_step HB.out hb);clear HM HB hb;have HM := n1;have HB := n2;clear n1 n2;obtain ⟨cc0,cc1,cc2,cc3,cc4,cc5,cc6⟩ := HM.out.cells)
   | (go_at_call 22;(with_reducible refine (privityref05_Below.calls k _ _ _ _ _ _ (Kd.C_below hr0.out HB.out) hc0 (hb0.out hle0.out)).mono ?_);rintro e w7 ⟨rfl,hd⟩;have hb := below_drawn hd;clear hd;have n1 := Aside0.mk (HM.out.below hb);have n2 := Aside0.mk (below_step HB.out hb);clear HM HB hb;have HM := n1;have HB := n2;clear n1 n2;obtain ⟨cd0,cd1,cd2,cd3,cd4,cd5,cd6⟩ := HM.out.cells)
   | (go_at_call 22;(with_reducible refine (privityref05_Below.calls k _ _ _ _ _ _ (Kd.C_below hr1.out HB.out) hc1 (hb1.out hle1.out)).mono ?_);rintro e w8 ⟨rfl,hd⟩;have hb := below_drawn hd;clear hd;have n1 := Aside0.mk (HM.out.below hb);have n2 := Aside0.mk (below_step HB.out hb);clear HM HB hb;have HM := n1;have HB := n2;clear n1 n2;obtain ⟨ce0,ce1,ce2,ce3,ce4,ce5,ce6⟩ := HM.out.cells))
  go_ret
  exact ⟨rfl,HB.out⟩
 | true =>
 by_cases e1 : (l0.length : Int) = j
 case neg =>
  have q1 : ((l0.length : Int) != j) = true := by simpa using e1
  clear h
  go_enter Try.func4,Try.ntmps4
  go_wp2_with (first
   | ((with_reducible refine gate_dst (N := 3) rfl ?_);refine box_event ?hg (N := 3) ?hd (cs := #[.int .u64 P,(.int .i64 N),(.int .i64 T)]) (t := 24) ?hr ?_;(case hd => rfl);(case hg => rfl);(case hr => first|(go_simp;done)|(go_simp;rfl));intro gs hgs w1 hbox1 hb1)
   | ((with_reducible refine gate_dst (N := 4) rfl ?_);refine box_event ?hg (N := 4) ?hd (cs := #[.slice A0 l0.length c0,.slice A1 l1.length c1]) (t := 42) ?hr ?_;(case hd => rfl);(case hg => rfl);(case hr => first|(go_simp;done)|(go_simp;rfl));intro gq hgq w2 hbox2 hb2)
   | ((with_reducible refine gate_dst (N := 5) rfl ?_);refine box_event ?hg (N := 5) ?hd (cs := #[.int .u64 k0,.int .u64 k1]) (t := 43) ?hr ?_;(case hd => rfl);(case hg => rfl);(case hr => first|(go_simp;done)|(go_simp;rfl));intro gz hgz w3 hbox3 hb3;have HB := Aside0.mk (below_step (below_step hb1 hb2) hb3);have HM := Aside0.mk (show IslM gs gq gz P N T (.slice A0 l0.length c0) (.slice A1 l1.length c1) k0 k1 w3 from ⟨blk_below (blk_below hbox1 hb2) hb3,blk_below hbox2 hb3,hbox3⟩);have HG := Aside0.mk (show w.heap.size ≤ gs ∧ w.heap.size ≤ gq ∧ w.heap.size ≤ gz from ⟨by omega,by have := hb1.size;omega,by have := hb1.size;have := hb2.size;omega⟩);clear hgs hbox1 hb1 hgq hbox2 hb2 hgz hbox3 hb3)
   | (go_at_call 6;(with_reducible refine (privitylaw09_awake.calls k true _ ha.out).mono ?_);rintro e w4 ⟨rfl,hb⟩;have n1 := Aside0.mk (HM.out.below hb);have n2 := Aside0.mk (below_step HB.out hb);clear HM HB hb;have HM := n1;have HB := n2;clear n1 n2;obtain ⟨ca0,ca1,ca2,ca3,ca4,ca5,ca6⟩ := HM.out.cells)
   | (go_at_call 7;(with_reducible refine (privityref01_Supported.calls k _ _ _ hsu.out).mono ?_);rintro e w5 ⟨rfl,hb⟩;have n1 := Aside0.mk (HM.out.below hb);have n2 := Aside0.mk (below_step HB.out hb);clear HM HB hb;have HM := n1;have HB := n2;clear n1 n2;obtain ⟨cb0,cb1,cb2,cb3,cb4,cb5,cb6⟩ := HM.out.cells)
   | (go_at_call 9;(with_reducible refine (privitylaw09_setups.calls _ _ _ _ _ hse.out).mono ?_);rintro e w6 ⟨rfl,hb⟩;have n1 := Aside0.mk (HM.out.below hb);have n2 := Aside0.mk (below_step HB.out hb);clear HM HB hb;have HM := n1;have HB := n2;clear n1 n2;obtain ⟨cc0,cc1,cc2,cc3,cc4,cc5,cc6⟩ := HM.out.cells)
   | (go_at_call 22;(with_reducible refine (privityref05_Below.calls k _ _ _ _ _ _ (Kd.C_below hr0.out HB.out) hc0 (hb0.out hle0.out)).mono ?_);rintro e w7 ⟨rfl,hd⟩;have hb := below_drawn hd;clear hd;have n1 := Aside0.mk (HM.out.below hb);have n2 := Aside0.mk (below_step HB.out hb);clear HM HB hb;have HM := n1;have HB := n2;clear n1 n2;obtain ⟨cd0,cd1,cd2,cd3,cd4,cd5,cd6⟩ := HM.out.cells)
   | (go_at_call 22;(with_reducible refine (privityref05_Below.calls k _ _ _ _ _ _ (Kd.C_below hr1.out HB.out) hc1 (hb1.out hle1.out)).mono ?_);rintro e w8 ⟨rfl,hd⟩;have hb := below_drawn hd;clear hd;have n1 := Aside0.mk (HM.out.below hb);have n2 := Aside0.mk (below_step HB.out hb);clear HM HB hb;have HM := n1;have HB := n2;clear n1 n2;obtain ⟨ce0,ce1,ce2,ce3,ce4,ce5,ce6⟩ := HM.out.cells))
  go_ret
  exact ⟨rfl,HB.out⟩
 have q1 : ((l0.length : Int) != j) = false := by simpa using e1
 have hle0 : Aside0 (l0.length ≤ 13) := ⟨by have h1 := HJ.out;have h2 := hsm.out rfl;unfold wrap64 at h1;omega⟩
 by_cases e2 : (l1.length : Int) = j
 case neg =>
  have q2 : ((l1.length : Int) != j) = true := by simpa using e2
  clear h
  go_enter Try.func4,Try.ntmps4
  go_wp2_with (first
   | ((with_reducible refine gate_dst (N := 3) rfl ?_);refine box_event ?hg (N := 3) ?hd (cs := #[.int .u64 P,(.int .i64 N),(.int .i64 T)]) (t := 24) ?hr ?_;(case hd => rfl);(case hg => rfl);(case hr => first|(go_simp;done)|(go_simp;rfl));intro gs hgs w1 hbox1 hb1)
   | ((with_reducible refine gate_dst (N := 4) rfl ?_);refine box_event ?hg (N := 4) ?hd (cs := #[.slice A0 l0.length c0,.slice A1 l1.length c1]) (t := 42) ?hr ?_;(case hd => rfl);(case hg => rfl);(case hr => first|(go_simp;done)|(go_simp;rfl));intro gq hgq w2 hbox2 hb2)
   | ((with_reducible refine gate_dst (N := 5) rfl ?_);refine box_event ?hg (N := 5) ?hd (cs := #[.int .u64 k0,.int .u64 k1]) (t := 43) ?hr ?_;(case hd => rfl);(case hg => rfl);(case hr => first|(go_simp;done)|(go_simp;rfl));intro gz hgz w3 hbox3 hb3;have HB := Aside0.mk (below_step (below_step hb1 hb2) hb3);have HM := Aside0.mk (show IslM gs gq gz P N T (.slice A0 l0.length c0) (.slice A1 l1.length c1) k0 k1 w3 from ⟨blk_below (blk_below hbox1 hb2) hb3,blk_below hbox2 hb3,hbox3⟩);have HG := Aside0.mk (show w.heap.size ≤ gs ∧ w.heap.size ≤ gq ∧ w.heap.size ≤ gz from ⟨by omega,by have := hb1.size;omega,by have := hb1.size;have := hb2.size;omega⟩);clear hgs hbox1 hb1 hgq hbox2 hb2 hgz hbox3 hb3)
   | (go_at_call 6;(with_reducible refine (privitylaw09_awake.calls k true _ ha.out).mono ?_);rintro e w4 ⟨rfl,hb⟩;have n1 := Aside0.mk (HM.out.below hb);have n2 := Aside0.mk (below_step HB.out hb);clear HM HB hb;have HM := n1;have HB := n2;clear n1 n2;obtain ⟨ca0,ca1,ca2,ca3,ca4,ca5,ca6⟩ := HM.out.cells)
   | (go_at_call 7;(with_reducible refine (privityref01_Supported.calls k _ _ _ hsu.out).mono ?_);rintro e w5 ⟨rfl,hb⟩;have n1 := Aside0.mk (HM.out.below hb);have n2 := Aside0.mk (below_step HB.out hb);clear HM HB hb;have HM := n1;have HB := n2;clear n1 n2;obtain ⟨cb0,cb1,cb2,cb3,cb4,cb5,cb6⟩ := HM.out.cells)
   | (go_at_call 9;(with_reducible refine (privitylaw09_setups.calls _ _ _ _ _ hse.out).mono ?_);rintro e w6 ⟨rfl,hb⟩;have n1 := Aside0.mk (HM.out.below hb);have n2 := Aside0.mk (below_step HB.out hb);clear HM HB hb;have HM := n1;have HB := n2;clear n1 n2;obtain ⟨cc0,cc1,cc2,cc3,cc4,cc5,cc6⟩ := HM.out.cells)
   | (go_at_call 22;(with_reducible refine (privityref05_Below.calls k _ _ _ _ _ _ (Kd.C_below hr0.out HB.out) hc0 (hb0.out hle0.out)).mono ?_);rintro e w7 ⟨rfl,hd⟩;have hb := below_drawn hd;clear hd;have n1 := Aside0.mk (HM.out.below hb);have n2 := Aside0.mk (below_step HB.out hb);clear HM HB hb;have HM := n1;have HB := n2;clear n1 n2;obtain ⟨cd0,cd1,cd2,cd3,cd4,cd5,cd6⟩ := HM.out.cells)
   | (go_at_call 22;(with_reducible refine (privityref05_Below.calls k _ _ _ _ _ _ (Kd.C_below hr1.out HB.out) hc1 (hb1.out hle1.out)).mono ?_);rintro e w8 ⟨rfl,hd⟩;have hb := below_drawn hd;clear hd;have n1 := Aside0.mk (HM.out.below hb);have n2 := Aside0.mk (below_step HB.out hb);clear HM HB hb;have HM := n1;have HB := n2;clear n1 n2;obtain ⟨ce0,ce1,ce2,ce3,ce4,ce5,ce6⟩ := HM.out.cells))
  go_ret
  exact ⟨rfl,HB.out⟩
 have q2 : ((l1.length : Int) != j) = false := by simpa using e2
 have hle1 : Aside0 (l1.length ≤ 13) := ⟨by have h1 := HJ.out;have h2 := hsm.out rfl;unfold wrap64 at h1;omega⟩
 cases b5 with
 | false =>
  clear h
  go_enter Try.func4,Try.ntmps4
  go_wp2_with (first
   | ((with_reducible refine gate_dst (N := 3) rfl ?_);refine box_event ?hg (N := 3) ?hd (cs := #[.int .u64 P,(.int .i64 N),(.int .i64 T)]) (t := 24) ?hr ?_;(case hd => rfl);(case hg => rfl);(case hr => first|(go_simp;done)|(go_simp;rfl));intro gs hgs w1 hbox1 hb1)
   | ((with_reducible refine gate_dst (N := 4) rfl ?_);refine box_event ?hg (N := 4) ?hd (cs := #[.slice A0 l0.length c0,.slice A1 l1.length c1]) (t := 42) ?hr ?_;(case hd => rfl);(case hg => rfl);(case hr => first|(go_simp;done)|(go_simp;rfl));intro gq hgq w2 hbox2 hb2)
   | ((with_reducible refine gate_dst (N := 5) rfl ?_);refine box_event ?hg (N := 5) ?hd (cs := #[.int .u64 k0,.int .u64 k1]) (t := 43) ?hr ?_;(case hd => rfl);(case hg => rfl);(case hr => first|(go_simp;done)|(go_simp;rfl));intro gz hgz w3 hbox3 hb3;have HB := Aside0.mk (below_step (below_step hb1 hb2) hb3);have HM := Aside0.mk (show IslM gs gq gz P N T (.slice A0 l0.length c0) (.slice A1 l1.length c1) k0 k1 w3 from ⟨blk_below (blk_below hbox1 hb2) hb3,blk_below hbox2 hb3,hbox3⟩);have HG := Aside0.mk (show w.heap.size ≤ gs ∧ w.heap.size ≤ gq ∧ w.heap.size ≤ gz from ⟨by omega,by have := hb1.size;omega,by have := hb1.size;have := hb2.size;omega⟩);clear hgs hbox1 hb1 hgq hbox2 hb2 hgz hbox3 hb3)
   | (go_at_call 6;(with_reducible refine (privitylaw09_awake.calls k true _ ha.out).mono ?_);rintro e w4 ⟨rfl,hb⟩;have n1 := Aside0.mk (HM.out.below hb);have n2 := Aside0.mk (below_step HB.out hb);clear HM HB hb;have HM := n1;have HB := n2;clear n1 n2;obtain ⟨ca0,ca1,ca2,ca3,ca4,ca5,ca6⟩ := HM.out.cells)
   | (go_at_call 7;(with_reducible refine (privityref01_Supported.calls k _ _ _ hsu.out).mono ?_);rintro e w5 ⟨rfl,hb⟩;have n1 := Aside0.mk (HM.out.below hb);have n2 := Aside0.mk (below_step HB.out hb);clear HM HB hb;have HM := n1;have HB := n2;clear n1 n2;obtain ⟨cb0,cb1,cb2,cb3,cb4,cb5,cb6⟩ := HM.out.cells)
   | (go_at_call 9;(with_reducible refine (privitylaw09_setups.calls _ _ _ _ _ hse.out).mono ?_);rintro e w6 ⟨rfl,hb⟩;have n1 := Aside0.mk (HM.out.below hb);have n2 := Aside0.mk (below_step HB.out hb);clear HM HB hb;have HM := n1;have HB := n2;clear n1 n2;obtain ⟨cc0,cc1,cc2,cc3,cc4,cc5,cc6⟩ := HM.out.cells)
   | (go_at_call 22;(with_reducible refine (privityref05_Below.calls k _ _ _ _ _ _ (Kd.C_below hr0.out HB.out) hc0 (hb0.out hle0.out)).mono ?_);rintro e w7 ⟨rfl,hd⟩;have hb := below_drawn hd;clear hd;have n1 := Aside0.mk (HM.out.below hb);have n2 := Aside0.mk (below_step HB.out hb);clear HM HB hb;have HM := n1;have HB := n2;clear n1 n2;obtain ⟨cd0,cd1,cd2,cd3,cd4,cd5,cd6⟩ := HM.out.cells)
   | (go_at_call 22;(with_reducible refine (privityref05_Below.calls k _ _ _ _ _ _ (Kd.C_below hr1.out HB.out) hc1 (hb1.out hle1.out)).mono ?_);rintro e w8 ⟨rfl,hd⟩;have hb := below_drawn hd;clear hd;have n1 := Aside0.mk (HM.out.below hb);have n2 := Aside0.mk (below_step HB.out hb);clear HM HB hb;have HM := n1;have HB := n2;clear n1 n2;obtain ⟨ce0,ce1,ce2,ce3,ce4,ce5,ce6⟩ := HM.out.cells))
  go_ret
  exact ⟨rfl,HB.out⟩
 | true =>
 cases b6 with
 | false =>
  clear h
  go_enter Try.func4,Try.ntmps4
  go_wp2_with (first
   | ((with_reducible refine gate_dst (N := 3) rfl ?_);refine box_event ?hg (N := 3) ?hd (cs := #[.int .u64 P,(.int .i64 N),(.int .i64 T)]) (t := 24) ?hr ?_;(case hd => rfl);(case hg => rfl);(case hr => first|(go_simp;done)|(go_simp;rfl));intro gs hgs w1 hbox1 hb1)
   | ((with_reducible refine gate_dst (N := 4) rfl ?_);refine box_event ?hg (N := 4) ?hd (cs := #[.slice A0 l0.length c0,.slice A1 l1.length c1]) (t := 42) ?hr ?_;(case hd => rfl);(case hg => rfl);(case hr => first|(go_simp;done)|(go_simp;rfl));intro gq hgq w2 hbox2 hb2)
   | ((with_reducible refine gate_dst (N := 5) rfl ?_);refine box_event ?hg (N := 5) ?hd (cs := #[.int .u64 k0,.int .u64 k1]) (t := 43) ?hr ?_;(case hd => rfl);(case hg => rfl);(case hr => first|(go_simp;done)|(go_simp;rfl));intro gz hgz w3 hbox3 hb3;have HB := Aside0.mk (below_step (below_step hb1 hb2) hb3);have HM := Aside0.mk (show IslM gs gq gz P N T (.slice A0 l0.length c0) (.slice A1 l1.length c1) k0 k1 w3 from ⟨blk_below (blk_below hbox1 hb2) hb3,blk_below hbox2 hb3,hbox3⟩);have HG := Aside0.mk (show w.heap.size ≤ gs ∧ w.heap.size ≤ gq ∧ w.heap.size ≤ gz from ⟨by omega,by have := hb1.size;omega,by have := hb1.size;have := hb2.size;omega⟩);clear hgs hbox1 hb1 hgq hbox2 hb2 hgz hbox3 hb3)
   | (go_at_call 6;(with_reducible refine (privitylaw09_awake.calls k true _ ha.out).mono ?_);rintro e w4 ⟨rfl,hb⟩;have n1 := Aside0.mk (HM.out.below hb);have n2 := Aside0.mk (below_step HB.out hb);clear HM HB hb;have HM := n1;have HB := n2;clear n1 n2;obtain ⟨ca0,ca1,ca2,ca3,ca4,ca5,ca6⟩ := HM.out.cells)
   | (go_at_call 7;(with_reducible refine (privityref01_Supported.calls k _ _ _ hsu.out).mono ?_);rintro e w5 ⟨rfl,hb⟩;have n1 := Aside0.mk (HM.out.below hb);have n2 := Aside0.mk (below_step HB.out hb);clear HM HB hb;have HM := n1;have HB := n2;clear n1 n2;obtain ⟨cb0,cb1,cb2,cb3,cb4,cb5,cb6⟩ := HM.out.cells)
   | (go_at_call 9;(with_reducible refine (privitylaw09_setups.calls _ _ _ _ _ hse.out).mono ?_);rintro e w6 ⟨rfl,hb⟩;have n1 := Aside0.mk (HM.out.below hb);have n2 := Aside0.mk (below_step HB.out hb);clear HM HB hb;have HM := n1;have HB := n2;clear n1 n2;obtain ⟨cc0,cc1,cc2,cc3,cc4,cc5,cc6⟩ := HM.out.cells)
   | (go_at_call 22;(with_reducible refine (privityref05_Below.calls k _ _ _ _ _ _ (Kd.C_below hr0.out HB.out) hc0 (hb0.out hle0.out)).mono ?_);rintro e w7 ⟨rfl,hd⟩;have hb := below_drawn hd;clear hd;have n1 := Aside0.mk (HM.out.below hb);have n2 := Aside0.mk (below_step HB.out hb);clear HM HB hb;have HM := n1;have HB := n2;clear n1 n2;obtain ⟨cd0,cd1,cd2,cd3,cd4,cd5,cd6⟩ := HM.out.cells)
   | (go_at_call 22;(with_reducible refine (privityref05_Below.calls k _ _ _ _ _ _ (Kd.C_below hr1.out HB.out) hc1 (hb1.out hle1.out)).mono ?_);rintro e w8 ⟨rfl,hd⟩;have hb := below_drawn hd;clear hd;have n1 := Aside0.mk (HM.out.below hb);have n2 := Aside0.mk (below_step HB.out hb);clear HM HB hb;have HM := n1;have HB := n2;clear n1 n2;obtain ⟨ce0,ce1,ce2,ce3,ce4,ce5,ce6⟩ := HM.out.cells))
  go_ret
  exact ⟨rfl,HB.out⟩
 | true =>
 by_cases f3 : k0 < P
 case neg =>
  have g3 : decide (k0 ≥ P) = true := decide_eq_true (by omega)
  have g3' : decide (P ≤ k0) = true := decide_eq_true (by omega)
  clear h
  go_enter Try.func4,Try.ntmps4
  go_wp2_with (first
   | ((with_reducible refine gate_dst (N := 3) rfl ?_);refine box_event ?hg (N := 3) ?hd (cs := #[.int .u64 P,(.int .i64 N),(.int .i64 T)]) (t := 24) ?hr ?_;(case hd => rfl);(case hg => rfl);(case hr => first|(go_simp;done)|(go_simp;rfl));intro gs hgs w1 hbox1 hb1)
   | ((with_reducible refine gate_dst (N := 4) rfl ?_);refine box_event ?hg (N := 4) ?hd (cs := #[.slice A0 l0.length c0,.slice A1 l1.length c1]) (t := 42) ?hr ?_;(case hd => rfl);(case hg => rfl);(case hr => first|(go_simp;done)|(go_simp;rfl));intro gq hgq w2 hbox2 hb2)
   | ((with_reducible refine gate_dst (N := 5) rfl ?_);refine box_event ?hg (N := 5) ?hd (cs := #[.int .u64 k0,.int .u64 k1]) (t := 43) ?hr ?_;(case hd => rfl);(case hg => rfl);(case hr => first|(go_simp;done)|(go_simp;rfl));intro gz hgz w3 hbox3 hb3;have HB := Aside0.mk (below_step (below_step hb1 hb2) hb3);have HM := Aside0.mk (show IslM gs gq gz P N T (.slice A0 l0.length c0) (.slice A1 l1.length c1) k0 k1 w3 from ⟨blk_below (blk_below hbox1 hb2) hb3,blk_below hbox2 hb3,hbox3⟩);have HG := Aside0.mk (show w.heap.size ≤ gs ∧ w.heap.size ≤ gq ∧ w.heap.size ≤ gz from ⟨by omega,by have := hb1.size;omega,by have := hb1.size;have := hb2.size;omega⟩);clear hgs hbox1 hb1 hgq hbox2 hb2 hgz hbox3 hb3)
   | (go_at_call 6;(with_reducible refine (privitylaw09_awake.calls k true _ ha.out).mono ?_);rintro e w4 ⟨rfl,hb⟩;have n1 := Aside0.mk (HM.out.below hb);have n2 := Aside0.mk (below_step HB.out hb);clear HM HB hb;have HM := n1;have HB := n2;clear n1 n2;obtain ⟨ca0,ca1,ca2,ca3,ca4,ca5,ca6⟩ := HM.out.cells)
   | (go_at_call 7;(with_reducible refine (privityref01_Supported.calls k _ _ _ hsu.out).mono ?_);rintro e w5 ⟨rfl,hb⟩;have n1 := Aside0.mk (HM.out.below hb);have n2 := Aside0.mk (below_step HB.out hb);clear HM HB hb;have HM := n1;have HB := n2;clear n1 n2;obtain ⟨cb0,cb1,cb2,cb3,cb4,cb5,cb6⟩ := HM.out.cells)
   | (go_at_call 9;(with_reducible refine (privitylaw09_setups.calls _ _ _ _ _ hse.out).mono ?_);rintro e w6 ⟨rfl,hb⟩;have n1 := Aside0.mk (HM.out.below hb);have n2 := Aside0.mk (below_step HB.out hb);clear HM HB hb;have HM := n1;have HB := n2;clear n1 n2;obtain ⟨cc0,cc1,cc2,cc3,cc4,cc5,cc6⟩ := HM.out.cells)
   | (go_at_call 22;(with_reducible refine (privityref05_Below.calls k _ _ _ _ _ _ (Kd.C_below hr0.out HB.out) hc0 (hb0.out hle0.out)).mono ?_);rintro e w7 ⟨rfl,hd⟩;have hb := below_drawn hd;clear hd;have n1 := Aside0.mk (HM.out.below hb);have n2 := Aside0.mk (below_step HB.out hb);clear HM HB hb;have HM := n1;have HB := n2;clear n1 n2;obtain ⟨cd0,cd1,cd2,cd3,cd4,cd5,cd6⟩ := HM.out.cells)
   | (go_at_call 22;(with_reducible refine (privityref05_Below.calls k _ _ _ _ _ _ (Kd.C_below hr1.out HB.out) hc1 (hb1.out hle1.out)).mono ?_);rintro e w8 ⟨rfl,hd⟩;have hb := below_drawn hd;clear hd;have n1 := Aside0.mk (HM.out.below hb);have n2 := Aside0.mk (below_step HB.out hb);clear HM HB hb;have HM := n1;have HB := n2;clear n1 n2;obtain ⟨ce0,ce1,ce2,ce3,ce4,ce5,ce6⟩ := HM.out.cells))
  go_ret
  exact ⟨rfl,HB.out⟩
 have g3 : decide (k0 ≥ P) = false := decide_eq_false (by omega)
 have g3' : decide (P ≤ k0) = false := decide_eq_false (by omega)
 by_cases f4 : k1 < P
 case neg =>
  have g4 : decide (k1 ≥ P) = true := decide_eq_true (by omega)
  have g4' : decide (P ≤ k1) = true := decide_eq_true (by omega)
  clear h
  go_enter Try.func4,Try.ntmps4
  go_wp2_with (first
   | ((with_reducible refine gate_dst (N := 3) rfl ?_);refine box_event ?hg (N := 3) ?hd (cs := #[.int .u64 P,(.int .i64 N),(.int .i64 T)]) (t := 24) ?hr ?_;(case hd => rfl);(case hg => rfl);(case hr => first|(go_simp;done)|(go_simp;rfl));intro gs hgs w1 hbox1 hb1)
   | ((with_reducible refine gate_dst (N := 4) rfl ?_);refine box_event ?hg (N := 4) ?hd (cs := #[.slice A0 l0.length c0,.slice A1 l1.length c1]) (t := 42) ?hr ?_;(case hd => rfl);(case hg => rfl);(case hr => first|(go_simp;done)|(go_simp;rfl));intro gq hgq w2 hbox2 hb2)
   | ((with_reducible refine gate_dst (N := 5) rfl ?_);refine box_event ?hg (N := 5) ?hd (cs := #[.int .u64 k0,.int .u64 k1]) (t := 43) ?hr ?_;(case hd => rfl);(case hg => rfl);(case hr => first|(go_simp;done)|(go_simp;rfl));intro gz hgz w3 hbox3 hb3;have HB := Aside0.mk (below_step (below_step hb1 hb2) hb3);have HM := Aside0.mk (show IslM gs gq gz P N T (.slice A0 l0.length c0) (.slice A1 l1.length c1) k0 k1 w3 from ⟨blk_below (blk_below hbox1 hb2) hb3,blk_below hbox2 hb3,hbox3⟩);have HG := Aside0.mk (show w.heap.size ≤ gs ∧ w.heap.size ≤ gq ∧ w.heap.size ≤ gz from ⟨by omega,by have := hb1.size;omega,by have := hb1.size;have := hb2.size;omega⟩);clear hgs hbox1 hb1 hgq hbox2 hb2 hgz hbox3 hb3)
   | (go_at_call 6;(with_reducible refine (privitylaw09_awake.calls k true _ ha.out).mono ?_);rintro e w4 ⟨rfl,hb⟩;have n1 := Aside0.mk (HM.out.below hb);have n2 := Aside0.mk (below_step HB.out hb);clear HM HB hb;have HM := n1;have HB := n2;clear n1 n2;obtain ⟨ca0,ca1,ca2,ca3,ca4,ca5,ca6⟩ := HM.out.cells)
   | (go_at_call 7;(with_reducible refine (privityref01_Supported.calls k _ _ _ hsu.out).mono ?_);rintro e w5 ⟨rfl,hb⟩;have n1 := Aside0.mk (HM.out.below hb);have n2 := Aside0.mk (below_step HB.out hb);clear HM HB hb;have HM := n1;have HB := n2;clear n1 n2;obtain ⟨cb0,cb1,cb2,cb3,cb4,cb5,cb6⟩ := HM.out.cells)
   | (go_at_call 9;(with_reducible refine (privitylaw09_setups.calls _ _ _ _ _ hse.out).mono ?_);rintro e w6 ⟨rfl,hb⟩;have n1 := Aside0.mk (HM.out.below hb);have n2 := Aside0.mk (below_step HB.out hb);clear HM HB hb;have HM := n1;have HB := n2;clear n1 n2;obtain ⟨cc0,cc1,cc2,cc3,cc4,cc5,cc6⟩ := HM.out.cells)
   | (go_at_call 22;(with_reducible refine (privityref05_Below.calls k _ _ _ _ _ _ (Kd.C_below hr0.out HB.out) hc0 (hb0.out hle0.out)).mono ?_);rintro e w7 ⟨rfl,hd⟩;have hb := below_drawn hd;clear hd;have n1 := Aside0.mk (HM.out.below hb);have n2 := Aside0.mk (below_step HB.out hb);clear HM HB hb;have HM := n1;have HB := n2;clear n1 n2;obtain ⟨cd0,cd1,cd2,cd3,cd4,cd5,cd6⟩ := HM.out.cells)
   | (go_at_call 22;(with_reducible refine (privityref05_Below.calls k _ _ _ _ _ _ (Kd.C_below hr1.out HB.out) hc1 (hb1.out hle1.out)).mono ?_);rintro e w8 ⟨rfl,hd⟩;have hb := below_drawn hd;clear hd;have n1 := Aside0.mk (HM.out.below hb);have n2 := Aside0.mk (below_step HB.out hb);clear HM HB hb;have HM := n1;have HB := n2;clear n1 n2;obtain ⟨ce0,ce1,ce2,ce3,ce4,ce5,ce6⟩ := HM.out.cells))
  go_ret
  exact ⟨rfl,HB.out⟩
 have g4 : decide (k1 ≥ P) = false := decide_eq_false (by omega)
 have g4' : decide (P ≤ k1) = false := decide_eq_false (by omega)
 exact absurd ⟨rfl,rfl,e1,e2,rfl,rfl,f3,f4⟩ h
end
section
variable (P N T : Int) (A0 : Option Addr) (c0 : Nat) (l0 : List Int) (A1 : Option Addr) (c1 : Nat) (l1 : List Int) (k0 k1 : Int) (k : Nat) (w : World)
 (hr0 : Aside0 (Kd.C (Kd.int .u64) w A0 l0.length l0)) (hc0 : l0.length ≤ c0) (hr1 : Aside0 (Kd.C (Kd.int .u64) w A1 l1.length l1)) (hc1 : l1.length ≤ c1)
 (ha : Aside0 (privitylaw09_awake.f k = some true)) (b1 b2 b5 b6 : Bool) (hsu : Aside0 (privityref01_Supported.f k P = some b1)) (hse : Aside0 (privitylaw09_setups.f P N T = some b2))
 (hb0 : Aside0 (l0.length ≤ 13 → privityref05_Below.f k P l0 = some b5)) (hb1 : Aside0 (l1.length ≤ 13 → privityref05_Below.f k P l1 = some b6))
include hr0 hc0 hr1 hc1 ha hsu hse hb0 hb1
set_option maxHeartbeats 8000000 in
set_option maxRecDepth 100000 in
theorem isl_main (n t m : Nat) (hmt : m = t + 1) (hn : n ≤ 13) (htn : t < n) (hN : N = (n : Int)) (hT : T = (t : Int)) (hg1 : b1 = true) (hg2 : b2 = true) (hg3 : l0.length = m) (hg4 : l1.length = m) (hg5 : b5 = true) (hg6 : b6 = true) (hk0 : k0 < P) (hk1 : k1 < P)
  (r0 r1 : List Int) (hs0 : Aside0 (shamir_Shares.f k P (n : Int) l0 = some r0)) (hs1 : Aside0 (shamir_Shares.f k P (n : Int) l1 = some r1)) (hrl0 : r0.length = n) (hrl1 : r1.length = n)
  (Z1 Z2 Z3 Z4 W : List (List Int)) (hz1 : Aside0 (shamir_Scale.f P k0 (shrR m r0) = some Z1)) (hz2 : Aside0 (shamir_Add.f P Z1 (shrR m r1) = some Z2)) (hz3 : Aside0 (shamir_Constant.f k P (n : Int) (t : Int) k1 = some Z3)) (hz4 : Aside0 (shamir_Sub.f P Z2 Z3 = some Z4))
  (hlo : Aside0 (shamir_LocalShares.f k [Z4] = some W)) (hWl : W.length = n) (hWr : Aside0 (∀ i,i < n → (W.getD i []).length = 1)) (x1 x2 v : Int) (hre : Aside0 (shamir_Reconstruct.f k P (t : Int) (islP W n) = some (v,0)))
  (hx1 : Aside0 (field_Mul.f k P k0 (rd l0 0) = some x1)) (hx2 : Aside0 (field_Add.f k P x1 (rd l1 0) = some x2)) (hx3 : Aside0 (field_Sub.f k P x2 k1 = some v)) :
  Calls Try.prog 4 #[.agg #[.int .u64 P,.int .i64 N,.int .i64 T],.agg #[.slice A0 l0.length c0,.slice A1 l1.length c1],.agg #[.int .u64 k0,.int .u64 k1]] w fun e w' => e = .returned (.bool true) ∧ Below w.heap.size w w' := by
 subst hN hT hg1 hg2 hg5 hg6
 have hj : IntKind.i64.wrap ((t : Int) + 1) = (m : Int) := by rw [wrapI_id (by omega) (by omega)];omega
 have HM1 := am (show 0 < m ∧ m ≤ 13 from ⟨by omega,by omega⟩)
 have q1 : ((l0.length : Int) != (m : Int)) = false := bne_eq_false_iff_eq.mpr (show (l0.length : Int) = (m : Int) by omega)
 have q2 : ((l1.length : Int) != (m : Int)) = false := bne_eq_false_iff_eq.mpr (show (l1.length : Int) = (m : Int) by omega)
 have g3 : decide (k0 ≥ P) = false := decide_eq_false (by omega)
 have g3' : decide (P ≤ k0) = false := decide_eq_false (by omega)
 have g4 : decide (k1 ≥ P) = false := decide_eq_false (by omega)
 have g4' : decide (P ≤ k1) = false := decide_eq_false (by omega)
 have HMT := am hmt
 have HRL0 := am hrl0
 have HRL1 := am hrl1
 have HWL := am hWl
 clear hrl0 hrl1 hWl
 have HL0 := am hg3
 have hle0 : Aside0 (l0.length ≤ 13) := ⟨by omega⟩
 have hle1 : Aside0 (l1.length ≤ 13) := ⟨by omega⟩
 have HL1 := am hg4
 clear hmt hg3 hg4
 go_enter Try.func4,Try.ntmps4
 go_wp2_with (first
  | ((with_reducible refine gate_dst (N := 3) rfl ?_);refine box_event ?hg (N := 3) ?hd (cs := #[.int .u64 P,(.int .i64 (n : Int)),(.int .i64 (t : Int))]) (t := 24) ?hr ?_;(case hd => rfl);(case hg => rfl);(case hr => first|(go_simp;done)|(go_simp;rfl));intro gs hgs w1 hbox1 hb1)
  | ((with_reducible refine gate_dst (N := 4) rfl ?_);refine box_event ?hg (N := 4) ?hd (cs := #[.slice A0 l0.length c0,.slice A1 l1.length c1]) (t := 42) ?hr ?_;(case hd => rfl);(case hg => rfl);(case hr => first|(go_simp;done)|(go_simp;rfl));intro gq hgq w2 hbox2 hb2)
  | ((with_reducible refine gate_dst (N := 5) rfl ?_);refine box_event ?hg (N := 5) ?hd (cs := #[.int .u64 k0,.int .u64 k1]) (t := 43) ?hr ?_;(case hd => rfl);(case hg => rfl);(case hr => first|(go_simp;done)|(go_simp;rfl));intro gz hgz w3 hbox3 hb3;have HB := am (below_step (below_step hb1 hb2) hb3);have HM := am (show IslM gs gq gz P (n : Int) (t : Int) (.slice A0 l0.length c0) (.slice A1 l1.length c1) k0 k1 w3 from ⟨blk_below (blk_below hbox1 hb2) hb3,blk_below hbox2 hb3,hbox3⟩);have HG := am (show w.heap.size ≤ gs ∧ w.heap.size ≤ gq ∧ w.heap.size ≤ gz from ⟨by omega,by have := hb1.size;omega,by have := hb1.size;have := hb2.size;omega⟩);clear hgs hbox1 hb1 hgq hbox2 hb2 hgz hbox3 hb3)
  | (go_at_call 6;(with_reducible refine (privitylaw09_awake.calls k true _ ha.out).mono ?_);rintro e w4 ⟨rfl,hb⟩;have n1 := am (HM.out.below hb);have n2 := am (below_step HB.out hb);clear HM HB hb;have HM := n1;have HB := n2;clear n1 n2;obtain ⟨ca0,ca1,ca2,ca3,ca4,ca5,ca6⟩ := HM.out.cells)
  | (go_at_call 7;(with_reducible refine (privityref01_Supported.calls k _ _ _ hsu.out).mono ?_);rintro e w5 ⟨rfl,hb⟩;have n1 := am (HM.out.below hb);have n2 := am (below_step HB.out hb);clear HM HB hb;have HM := n1;have HB := n2;clear n1 n2;obtain ⟨cb0,cb1,cb2,cb3,cb4,cb5,cb6⟩ := HM.out.cells)
  | (go_at_call 9;(with_reducible refine (privitylaw09_setups.calls _ _ _ _ _ hse.out).mono ?_);rintro e w6 ⟨rfl,hb⟩;have n1 := am (HM.out.below hb);have n2 := am (below_step HB.out hb);clear HM HB hb;have HM := n1;have HB := n2;clear n1 n2;obtain ⟨cc0,cc1,cc2,cc3,cc4,cc5,cc6⟩ := HM.out.cells)
  | (go_at_call 22;(with_reducible refine (privityref05_Below.calls k _ _ _ _ _ _ (Kd.C_below hr0.out HB.out) hc0 (hb0.out hle0.out)).mono ?_);rintro e w7 ⟨rfl,hd⟩;have hb := below_drawn hd;clear hd;have n1 := am (HM.out.below hb);have n2 := am (below_step HB.out hb);clear HM HB hb;have HM := n1;have HB := n2;clear n1 n2;obtain ⟨cd0,cd1,cd2,cd3,cd4,cd5,cd6⟩ := HM.out.cells)
  | (go_at_call 22;(with_reducible refine (privityref05_Below.calls k _ _ _ _ _ _ (Kd.C_below hr1.out HB.out) hc1 (hb1.out hle1.out)).mono ?_);rintro e w8 ⟨rfl,hd⟩;have hb := below_drawn hd;clear hd;have n1 := am (HM.out.below hb);have n2 := am (below_step HB.out hb);clear HM HB hb;have HM := n1;have HB := n2;clear n1 n2;obtain ⟨ce0,ce1,ce2,ce3,ce4,ce5,ce6⟩ := HM.out.cells)
  | ((with_reducible refine gate_dst (N := 8) rfl ?_);refine box_event ?hg (N := 8) ?hd (cs := #[.slice none 0 0,.slice none 0 0]) (t := 45) ?hr ?_;(case hd => rfl);(case hg => rfl);(case hr => first|(go_simp;done)|(go_simp;rfl));intro bt hbt w9 hboxt hb9;have HTw0 := am hboxt;have n1 := am (HM.out.below hb9);have n2 := am (below_step HB.out hb9);have HBT := am (show w.heap.size ≤ bt ∧ gs ≠ bt ∧ gq ≠ bt ∧ gz ≠ bt from ⟨by rw [hbt];exact below_size HB.out,by rw [hbt];exact Nat.ne_of_lt (blk_lt HM.out.1),by rw [hbt];exact Nat.ne_of_lt (blk_lt HM.out.2.1),by rw [hbt];exact Nat.ne_of_lt (blk_lt HM.out.2.2)⟩);clear HM HB hbt hboxt hb9;have HM := n1;have HB := n2;clear n1 n2))
 clear ca0 ca1 ca2 ca3 ca4 ca5 ca6 cb0 cb1 cb2 cb3 cb4 cb5 cb6 cc0 cc1 cc2 cc3 cc4 cc5 cc6 cd0 cd1 cd2 cd3 cd4 cd5 cd6 ce0 ce1 ce2 ce3 ce4 ce5 ce6
 clear hsu hse hb0 hb1 ha q1 q2 g3 g3' g4 g4'
 go_loopg [9,10,11,12] 2 (fun kq v9 v10 v11 v12 w' => ∃ (u0 u1 : Value),((v9 = .int .i64 0 ∧ kq = 2 ∧ u0 = .slice none 0 0 ∧ u1 = .slice none 0 0) ∨ (v9 = .int .i64 1 ∧ kq = 1 ∧ Aside0 (Kd.S (Kd.slice 22 (Kd.int .u64)) 41 w' w.heap.size (fun _ => True) u0 (shrR m r0)) ∧ u1 = .slice none 0 0) ∨ (v9 = .int .i64 2 ∧ kq = 0 ∧ Aside0 (Kd.S (Kd.slice 22 (Kd.int .u64)) 41 w' w.heap.size (fun _ => True) u0 (shrR m r0)) ∧ Aside0 (Kd.S (Kd.slice 22 (Kd.int .u64)) 41 w' w.heap.size (fun _ => True) u1 (shrR m r1)))) ∧
  Aside0 (IslM gs gq gz P (n : Int) (t : Int) (.slice A0 l0.length c0) (.slice A1 l1.length c1) k0 k1 w') ∧ Aside0 (w'.heap[bt]? = some (.cells #[u0,u1] 45 (0,0))) ∧ Aside0 (Below w.heap.size w w'))
 case atStart => exact ⟨_,_,.inl ⟨rfl,rfl,rfl,rfl⟩,HM,HTw0,HB⟩
 case round =>
 clear HM HTw0 HB
 obtain ⟨u0,u1,hm,HM,HTw,HB⟩ := hrel
 rcases hm with ⟨rfl,rfl,rfl,rfl⟩|⟨rfl,rfl,HU,rfl⟩|⟨rfl,rfl,HU0,HU1⟩
 ·skip
  obtain ⟨s0,s1,s2,s3,s4,s5,s6⟩ := HM.out.cells
  have HS := am (shamir_Shares.calls k P (n : Int) A0 c0 l0 r0 wr.drew (Kd.C_drew (Kd.C_below hr0.out HB.out)) hc0 hs0.out)
  go_wp2
  refine start_ (n := 8) (S := (fun w' => w'.cell? ⟨gs,1,none⟩ = some (.int .i64 (n : Int)) ∧ w'.cell? ⟨gq,0,none⟩ = some (.slice A0 l0.length c0))) (ds := []) (bz 8 0) (by kernel_rfl) rfl rfl ⟨s1,s3⟩ (fun hHeld => ?_)
  refine pu 0 84 (bz 8 1) ?_
  refine pu 1 85 (bz 8 3) ?_
  refine tu 2 86 (bz 8 7) hHeld ?_
  refine pu 3 87 (bz 8 15) ?_
  refine pu 4 88 (bz 8 31) ?_
  refine tu 5 89 (bz 8 63) hHeld ?_
  refine one_ (i := 6) (N := some 90) (bz 8 127) rfl rfl (by kernel_rfl) (by decide) (fun K hK => ?_)
  refine goes_ Try.func23 (by kernel_rfl) rfl #[.int .u64 P,.int .i64 (n : Int),.slice A0 l0.length c0] (by rfl) rfl rfl (by (try simp only [List.map_toArray,List.map_cons,List.map_nil]);first|done|rfl) ?_
  with_reducible refine HS.out.mono ?_
  rintro e w4 ⟨v4,rfl,ho4,hb4⟩
  refine ⟨_,rfl,?_⟩
  have hbr : Below wr.heap.size wr w4 := below_step (below_drew (Below.refl _ _)) hb4
  have HO4 := am ho4
  have HBr := am hbr
  have HM4 := am (HM.out.below hbr)
  have HT4 := am (blk_below HTw.out hbr)
  have HB4 := am (below_step HB.out hbr)
  refine hK.out _ _ ⟨pw_cell_below hb4 s1,pw_cell_below hb4 s3⟩ (fun hHeld => ?_)
  clear hK K
  refine nm 90 ?_
  refine pu 7 10 (bz 8 255) ?_
  refine done_ (by kernel_rfl) ?_
  obtain ⟨Ar,cr,er⟩ := Kd.R_slice HO4.out
  subst er
  obtain ⟨B,hBeq⟩ : ∃ B,B = wr.heap.size := ⟨_,rfl⟩
  have hBw : w.heap.size ≤ B := by rw [hBeq];exact below_size HB.out
  have HBw := am hBw
  have HOr := am (show Kd.R (Kd.int .u64) 22 w4 w.heap.size (fun _ => True) (.slice Ar r0.length cr) r0 from Kd.R_lower HO4.out (below_size (below_drew HB.out)))
  have hB4 : B ≤ w4.heap.size := by rw [hBeq];exact HBr.out.size
  have HB4s := am hB4
  clear hBeq HO4 HBr HM HTw HB HS hBw hB4 s0 s1 s2 s3 s4 s5 s6
  obtain ⟨s0,s1,s2,s3,s4,s5,s6⟩ := HM4.out.cells
  have qn : ((r0.length : Int) != (n : Int)) = false := bne_eq_false_iff_eq.mpr (by have := HRL0.out;omega)
  go_wp2
  go_loopg [11,12] n (fun kq v11 v12 w' => ∃ (i : Nat) (u : Value),v11 = .int .i64 (i : Int) ∧ Aside0 (kq + i = n) ∧ Aside0 (IslM gs gq gz P (n : Int) (t : Int) (.slice A0 l0.length c0) (.slice A1 l1.length c1) k0 k1 w') ∧ Aside0 (w'.heap[bt]? = some (.cells #[u,.slice none 0 0] 45 (0,0))) ∧ Aside0 (Kd.S (Kd.slice 22 (Kd.int .u64)) 41 w' B (fun _ => True) u (shrR m (r0.take i))) ∧ Aside0 (Kd.R (Kd.int .u64) 22 w' w.heap.size (fun _ => True) (.slice Ar r0.length cr) r0) ∧ Aside0 (B ≤ w'.heap.size) ∧ Aside0 (Below w.heap.size w w'))
  case atStart => exact ⟨0,.slice none 0 0,rfl,⟨by omega⟩,HM4,HT4,⟨by rw [List.take_zero];exact Kd.S_nil _ _ _ _ _⟩,HOr,HB4s,HB4⟩
  case round =>
   clear HM4 HT4 HOr HB4 HB4s s0 s1 s2 s3 s4 s5 s6
   obtain ⟨i,u,rfl,HK,HM,HTw,HU,HOr,HBs,HB⟩ := hrel
   by_cases hlt : i < n
   ·have qi : decide ((i : Int) < (n : Int)) = true := decide_eq_true (by omega)
    have hlr : i < r0.length := by have := HRL0.out;omega
    have p1 : ((0 : Int) ≤ (i : Int)) = True := eq_true (by omega)
    have p2 : ((i : Int) < (r0.length : Int)) = True := eq_true (by omega)
    obtain ⟨s0,s1,s2,s3,s4,s5,s6⟩ := HM.out.cells
    have hnx := shrR_next m r0 i hlr
    obtain ⟨ad,ea,hx⟩ := Kd.at_int (Kd.R_reads' HOr.out).2.2 (i : Int) (by omega) (by omega)
    cases ea
    rw [Int.toNat_natCast] at hx
    obtain ⟨X,hX⟩ : ∃ x,x = rd r0 (i : Int) := ⟨_,rfl⟩
    obtain ⟨y,hy⟩ : ∃ y,y = List.replicate m (0 : Int) := ⟨_,rfl⟩
    rw [← hX] at hx hnx
    rw [← hy] at hnx
    have hyl : y.length = m := by rw [hy,List.length_replicate]
    have HY := am hy
    have HYL := am hyl
    have HNX := am hnx
    have hul : (shrR m (r0.take i)).length ≤ 13 := by have := HRL0.out;rw [shrR_length,List.length_take];omega
    have HUL := am hul
    clear hX hy hyl hnx hul
    go_wp2_with (first
     | ((with_reducible refine gate_dst (N := 105) rfl ?_);refine Kd.R_make (Kd.int .u64) (w0 := wr) wr.heap.size 22 rfl (N := 105) rfl 41 _ _ rfl (m : Int) rfl rfl Try.underlying41 (.int .u64 0) 8 info22 rfl (by decide) (by omega) 0 (ok := fun _ => True) (okp := fun _ => True) rfl (fun _ hk => hk) trivial (by omega) (by have := HM1.out.2;omega) (Below.refl _ _) (Nat.le_refl _) ?_;intro v13 w13 ho hb hg_ hnew_;clear hg_ hnew_;rw [Int.toNat_natCast,← HY.out] at ho;obtain ⟨go,co,eo,gb,gl,cl,HG0⟩ := Kd.R_form ho (by rw [HYL.out];exact HM1.out.1);subst eo;have hx13 := pw_cell_below hb hx;obtain ⟨hy0,hf0⟩ := Kd.R_celln 0 ho (0 : Int) (by omega) (by have := HYL.out;have := HM1.out.1;omega);rw [show ((0 : Int)).toNat = 0 from rfl] at hy0 hf0;have hyl0 : (0 < y.length) = True := eq_true (by rw [HYL.out];exact HM1.out.1);have hyl1 : ((0 : Int) < (y.length : Int)) = True := eq_true (by have := HYL.out;have := HM1.out.1;omega);have HB13 := am hb;have HY13 := am ho;have GB := am gb;clear hb ho gb gl cl HG0)
     | ((with_reducible refine gate_store (t := 22) (p := 111) rfl ?_);refine store_event (t := 22) (p := 111) (v := ?vo_w16) (w1 := (w13.setCell ⟨go,0,none⟩ (.int .u64 X))) ?hg ?ho ?hn ?hr ?_;(case ho => rfl);(case hg => rfl);(case hn => rfl);(case hr => first|(go_simp;done)|(go_simp;rfl));intro w16 hw;have n1 := am (show Kd.R (Kd.int .u64) 22 w16 wr.heap.size (fun _ => True) (.slice (some ⟨go,0,none⟩) y.length co) (y.set 0 X) from by rw [hw];exact (Kd.R_putg HY13.out (0 : Int) X).1);have hb16 : Below wr.heap.size wr w16 := (by rw [hw];exact HB13.out.setCell (p := ⟨go,0,none⟩) GB.out _);have HB16 := am hb16;have HM16 := am (HM.out.below hb16);have HT16 := am (blk_below HTw.out hb16);have HU16 := am (Kd.S_below HU.out hb16);have HU16e := am (Kd.S_elder' HU.out (v := .slice (some ⟨go,0,none⟩) y.length co) (Kd.R_base n1.out) hb16);have HO16 := am (Kd.R_below HOr.out hb16);have hct : w16.cell? ⟨bt,0,none⟩ = some u := (blk_cell HT16.out 0).trans rfl;have hbw16 := am (below_step HB.out hb16);clear hw hb16 HY13 hy0 hf0)
     | ((with_reducible refine gate_builtin (b := .append) (xs := #[.tmp 115,.tmp 117]) rfl ?_);at_builtin;refine Kd.S_append (Kd.slice 22 (Kd.int .u64)) (w0 := w16) B rfl (.tmp 115) (.tmp 117) 26 41 (.slice none 0 0) 24 rfl Try.underlying26 info41 rfl (by decide) (by omega) u (shrR m (r0.take i)) (y.set 0 X) [.slice (some ⟨go,0,none⟩) y.length co] (fun _ => True) (fun k_ => some k_ = (.slice (some ⟨go,0,none⟩) y.length co : Value).ownBlock) rfl rfl ?aP ?aK ?aF ?aO ?aB ?aS ?aL ?_;(case aP => exact Kd.M_row (Kd.R_lower (Kd.R_tight rfl n1.out) HBs.out));(case aK => exact fun k_ hk_ => ⟨trivial,fun e_ => (Kd.R_ne n1.out (Kd.S_typed HU16.out k_ e_.symm).choose_spec (by decide)) hk_⟩);(case aF => exact fun _ _ => trivial);(case aO => exact Kd.S_mono HU16e.out (fun k_ hk => ⟨trivial,fun e_ => hk.2 e_⟩));(case aB => exact Below.refl _ _);(case aS => exact Nat.le_trans HBs.out HB16.out.size);(case aL => have := HUL.out;omega);intro v17 w17 ho hb hg hat;clear hat;rw [HNX.out] at ho;have HM17 := am (HM16.out.grown hg (Kd.S_ne HU16.out HM16.out.1 (by decide)) (Kd.S_ne HU16.out HM16.out.2.1 (by decide)) (Kd.S_ne HU16.out HM16.out.2.2 (by decide)));have HT17 := am (blk_grown HT16.out hg (Kd.S_ne HU16.out HT16.out (by decide)));have HO17 := am (Kd.R_over' HO16.out (v := u) (Kd.S_typed HU16.out) (by decide) hg);have HB17 := am (hbw16.out.trans (hb.mono HBw.out));have HS17 := am (Nat.le_trans (Nat.le_trans HBs.out HB16.out.size) hb.size);obtain ⟨A17,c17,e17⟩ := Kd.S_slice ho;subst e17;have HU17 := am ho;have hct17 : w17.cell? ⟨bt,0,none⟩ = some u := (blk_cell HT17.out 0).trans rfl;have hft17 := blk_frozen HT17.out 0;clear ho hb hg n1)
     | ((with_reducible refine gate_store (t := 26) (p := 119) rfl ?_);refine store_event (t := 26) (p := 119) (v := ?vo_w18) (w1 := (w17.setCell ⟨bt,0,none⟩ (.slice A17 (shrR m (r0.take (i + 1))).length c17))) ?hg ?ho ?hn ?hr ?_;(case ho => rfl);(case hg => rfl);(case hn => rfl);(case hr => first|(go_simp;done)|(go_simp;rfl));intro w18 hw;have HM18 := am (show IslM gs gq gz P (n : Int) (t : Int) (.slice A0 l0.length c0) (.slice A1 l1.length c1) k0 k1 w18 from by rw [hw];exact ⟨blk_far HM17.out.1 HBT.out.2.1 _,blk_far HM17.out.2.1 HBT.out.2.2.1 _,blk_far HM17.out.2.2 HBT.out.2.2.2 _⟩);have HT18 := am (show w18.heap[bt]? = some (.cells #[.slice A17 (shrR m (r0.take (i + 1))).length c17,.slice none 0 0] 45 (0,0)) from by rw [hw];exact blk_put HT17.out 0 _ rfl);have HU18 := am (show Kd.S (Kd.slice 22 (Kd.int .u64)) 41 w18 B (fun _ => True) (.slice A17 (shrR m (r0.take (i + 1))).length c17) (shrR m (r0.take (i + 1))) from by rw [hw];exact Kd.S_set HU17.out HT17.out (by decide) _ _);have HO18 := am (show Kd.R (Kd.int .u64) 22 w18 w.heap.size (fun _ => True) (.slice (some ad) r0.length cr) r0 from by rw [hw];exact Kd.R_set HO17.out HT17.out (by decide) _ _);have HB18 := am (show Below w.heap.size w w18 from by rw [hw];exact HB17.out.setCell (p := ⟨bt,0,none⟩) HBT.out.1 _);have HS18 := am (show B ≤ w18.heap.size from by rw [hw];have := HS17.out;simpa [World.setCell] using this);clear hw))
    go_roundg (n - (i + 1))
    case measure => have := HK.out;omega
    case rel => exact ⟨i + 1,_,by go_num,⟨by omega⟩,HM18,HT18,HU18,HO18,HS18,HB18⟩
   ·have qi : decide ((i : Int) < (n : Int)) = false := decide_eq_false (by omega)
    have hin : i = r0.length := by have := HK.out;have := HRL0.out;omega
    obtain ⟨s0,s1,s2,s3,s4,s5,s6⟩ := HM.out.cells
    have HU2 := am (show Kd.S (Kd.slice 22 (Kd.int .u64)) 41 wr w.heap.size (fun _ => True) u (shrR m r0) from by have := Kd.S_lower HU.out HBw.out;rwa [hin,List.take_length] at this)
    go_wp2
    go_roundg 1
    case measure => omega
    case rel => exact ⟨u,.slice none 0 0,.inr (.inl ⟨rfl,rfl,HU2,rfl⟩),HM,HTw,HB⟩
 ·skip
  obtain ⟨s0,s1,s2,s3,s4,s5,s6⟩ := HM.out.cells
  have HS := am (shamir_Shares.calls k P (n : Int) A1 c1 l1 r1 wr.drew (Kd.C_drew (Kd.C_below hr1.out HB.out)) hc1 hs1.out)
  go_wp2
  refine start_ (n := 8) (S := (fun w' => w'.cell? ⟨gs,1,none⟩ = some (.int .i64 (n : Int)) ∧ w'.cell? ⟨gq,1,none⟩ = some (.slice A1 l1.length c1))) (ds := []) (bz 8 0) (by kernel_rfl) rfl rfl ⟨s1,s4⟩ (fun hHeld => ?_)
  refine pu 0 84 (bz 8 1) ?_
  refine pu 1 85 (bz 8 3) ?_
  refine tu 2 86 (bz 8 7) hHeld ?_
  refine pu 3 87 (bz 8 15) ?_
  refine pu 4 88 (bz 8 31) ?_
  refine tu 5 89 (bz 8 63) hHeld ?_
  refine one_ (i := 6) (N := some 90) (bz 8 127) rfl rfl (by kernel_rfl) (by decide) (fun K hK => ?_)
  refine goes_ Try.func23 (by kernel_rfl) rfl #[.int .u64 P,.int .i64 (n : Int),.slice A1 l1.length c1] (by rfl) rfl rfl (by (try simp only [List.map_toArray,List.map_cons,List.map_nil]);first|done|rfl) ?_
  with_reducible refine HS.out.mono ?_
  rintro e w4 ⟨v4,rfl,ho4,hb4⟩
  refine ⟨_,rfl,?_⟩
  have hbr : Below wr.heap.size wr w4 := below_step (below_drew (Below.refl _ _)) hb4
  have HO4 := am ho4
  have HBr := am hbr
  have HM4 := am (HM.out.below hbr)
  have HT4 := am (blk_below HTw.out hbr)
  have HB4 := am (below_step HB.out hbr)
  refine hK.out _ _ ⟨pw_cell_below hb4 s1,pw_cell_below hb4 s4⟩ (fun hHeld => ?_)
  clear hK K
  refine nm 90 ?_
  refine pu 7 10 (bz 8 255) ?_
  refine done_ (by kernel_rfl) ?_
  obtain ⟨Ar,cr,er⟩ := Kd.R_slice HO4.out
  subst er
  obtain ⟨B,hBeq⟩ : ∃ B,B = wr.heap.size := ⟨_,rfl⟩
  have hBw : w.heap.size ≤ B := by rw [hBeq];exact below_size HB.out
  have HBw := am hBw
  have HOr := am (show Kd.R (Kd.int .u64) 22 w4 w.heap.size (fun _ => True) (.slice Ar r1.length cr) r1 from Kd.R_lower HO4.out (below_size (below_drew HB.out)))
  have HU0 := am (show Kd.S (Kd.slice 22 (Kd.int .u64)) 41 w4 w.heap.size (fun k_ => k_ < B) u0 (shrR m r0) from by rw [hBeq];exact Kd.S_mono (Kd.S_old HU.out HBr.out) (fun _ hk => hk.2))
  have hB4 : B ≤ w4.heap.size := by rw [hBeq];exact HBr.out.size
  have HB4s := am hB4
  clear hBeq HO4 HBr HM HTw HB HS hBw hB4 s0 s1 s2 s3 s4 s5 s6 HU
  obtain ⟨s0,s1,s2,s3,s4,s5,s6⟩ := HM4.out.cells
  have qn : ((r1.length : Int) != (n : Int)) = false := bne_eq_false_iff_eq.mpr (by have := HRL1.out;omega)
  go_wp2
  go_loopg [11,12] n (fun kq v11 v12 w' => ∃ (i : Nat) (u : Value),v11 = .int .i64 (i : Int) ∧ Aside0 (kq + i = n) ∧ Aside0 (IslM gs gq gz P (n : Int) (t : Int) (.slice A0 l0.length c0) (.slice A1 l1.length c1) k0 k1 w') ∧ Aside0 (w'.heap[bt]? = some (.cells #[u0,u] 45 (0,0))) ∧ Aside0 (Kd.S (Kd.slice 22 (Kd.int .u64)) 41 w' B (fun _ => True) u (shrR m (r1.take i))) ∧ Aside0 (Kd.R (Kd.int .u64) 22 w' w.heap.size (fun _ => True) (.slice Ar r1.length cr) r1) ∧ Aside0 (Kd.S (Kd.slice 22 (Kd.int .u64)) 41 w' w.heap.size (fun k_ => k_ < B) u0 (shrR m r0)) ∧ Aside0 (B ≤ w'.heap.size) ∧ Aside0 (Below w.heap.size w w'))
  case atStart => exact ⟨0,.slice none 0 0,rfl,⟨by omega⟩,HM4,HT4,⟨by rw [List.take_zero];exact Kd.S_nil _ _ _ _ _⟩,HOr,HU0,HB4s,HB4⟩
  case round =>
   clear HM4 HT4 HOr HB4 HB4s s0 s1 s2 s3 s4 s5 s6 HU0
   obtain ⟨i,u,rfl,HK,HM,HTw,HU,HOr,HU0,HBs,HB⟩ := hrel
   by_cases hlt : i < n
   ·have qi : decide ((i : Int) < (n : Int)) = true := decide_eq_true (by omega)
    have hlr : i < r1.length := by have := HRL1.out;omega
    have p1 : ((0 : Int) ≤ (i : Int)) = True := eq_true (by omega)
    have p2 : ((i : Int) < (r1.length : Int)) = True := eq_true (by omega)
    obtain ⟨s0,s1,s2,s3,s4,s5,s6⟩ := HM.out.cells
    have hnx := shrR_next m r1 i hlr
    obtain ⟨ad,ea,hx⟩ := Kd.at_int (Kd.R_reads' HOr.out).2.2 (i : Int) (by omega) (by omega)
    cases ea
    rw [Int.toNat_natCast] at hx
    obtain ⟨X,hX⟩ : ∃ x,x = rd r1 (i : Int) := ⟨_,rfl⟩
    obtain ⟨y,hy⟩ : ∃ y,y = List.replicate m (0 : Int) := ⟨_,rfl⟩
    rw [← hX] at hx hnx
    rw [← hy] at hnx
    have hyl : y.length = m := by rw [hy,List.length_replicate]
    have HY := am hy
    have HYL := am hyl
    have HNX := am hnx
    have hul : (shrR m (r1.take i)).length ≤ 13 := by have := HRL1.out;rw [shrR_length,List.length_take];omega
    have HUL := am hul
    clear hX hy hyl hnx hul
    go_wp2_with (first
     | ((with_reducible refine gate_dst (N := 105) rfl ?_);refine Kd.R_make (Kd.int .u64) (w0 := wr) wr.heap.size 22 rfl (N := 105) rfl 41 _ _ rfl (m : Int) rfl rfl Try.underlying41 (.int .u64 0) 8 info22 rfl (by decide) (by omega) 0 (ok := fun _ => True) (okp := fun _ => True) rfl (fun _ hk => hk) trivial (by omega) (by have := HM1.out.2;omega) (Below.refl _ _) (Nat.le_refl _) ?_;intro v13 w13 ho hb hg_ hnew_;clear hg_ hnew_;rw [Int.toNat_natCast,← HY.out] at ho;obtain ⟨go,co,eo,gb,gl,cl,HG0⟩ := Kd.R_form ho (by rw [HYL.out];exact HM1.out.1);subst eo;have hx13 := pw_cell_below hb hx;obtain ⟨hy0,hf0⟩ := Kd.R_celln 0 ho (0 : Int) (by omega) (by have := HYL.out;have := HM1.out.1;omega);rw [show ((0 : Int)).toNat = 0 from rfl] at hy0 hf0;have hyl0 : (0 < y.length) = True := eq_true (by rw [HYL.out];exact HM1.out.1);have hyl1 : ((0 : Int) < (y.length : Int)) = True := eq_true (by have := HYL.out;have := HM1.out.1;omega);have HB13 := am hb;have HY13 := am ho;have GB := am gb;clear hb ho gb gl cl HG0)
     | ((with_reducible refine gate_store (t := 22) (p := 111) rfl ?_);refine store_event (t := 22) (p := 111) (v := ?vo_w16) (w1 := (w13.setCell ⟨go,0,none⟩ (.int .u64 X))) ?hg ?ho ?hn ?hr ?_;(case ho => rfl);(case hg => rfl);(case hn => rfl);(case hr => first|(go_simp;done)|(go_simp;rfl));intro w16 hw;have n1 := am (show Kd.R (Kd.int .u64) 22 w16 wr.heap.size (fun _ => True) (.slice (some ⟨go,0,none⟩) y.length co) (y.set 0 X) from by rw [hw];exact (Kd.R_putg HY13.out (0 : Int) X).1);have hb16 : Below wr.heap.size wr w16 := (by rw [hw];exact HB13.out.setCell (p := ⟨go,0,none⟩) GB.out _);have HB16 := am hb16;have HM16 := am (HM.out.below hb16);have HT16 := am (blk_below HTw.out hb16);have HU16 := am (Kd.S_below HU.out hb16);have HU16e := am (Kd.S_elder' HU.out (v := .slice (some ⟨go,0,none⟩) y.length co) (Kd.R_base n1.out) hb16);have HO16 := am (Kd.R_below HOr.out hb16);have HU0_16 := am (Kd.S_below HU0.out hb16);have hct : w16.cell? ⟨bt,1,none⟩ = some u := (blk_cell HT16.out 1).trans rfl;have hbw16 := am (below_step HB.out hb16);clear hw hb16 HY13 hy0 hf0)
     | ((with_reducible refine gate_builtin (b := .append) (xs := #[.tmp 115,.tmp 117]) rfl ?_);at_builtin;refine Kd.S_append (Kd.slice 22 (Kd.int .u64)) (w0 := w16) B rfl (.tmp 115) (.tmp 117) 26 41 (.slice none 0 0) 24 rfl Try.underlying26 info41 rfl (by decide) (by omega) u (shrR m (r1.take i)) (y.set 0 X) [.slice (some ⟨go,0,none⟩) y.length co] (fun _ => True) (fun k_ => some k_ = (.slice (some ⟨go,0,none⟩) y.length co : Value).ownBlock) rfl rfl ?aP ?aK ?aF ?aO ?aB ?aS ?aL ?_;(case aP => exact Kd.M_row (Kd.R_lower (Kd.R_tight rfl n1.out) HBs.out));(case aK => exact fun k_ hk_ => ⟨trivial,fun e_ => (Kd.R_ne n1.out (Kd.S_typed HU16.out k_ e_.symm).choose_spec (by decide)) hk_⟩);(case aF => exact fun _ _ => trivial);(case aO => exact Kd.S_mono HU16e.out (fun k_ hk => ⟨trivial,fun e_ => hk.2 e_⟩));(case aB => exact Below.refl _ _);(case aS => exact Nat.le_trans HBs.out HB16.out.size);(case aL => have := HUL.out;omega);intro v17 w17 ho hb hg hat;clear hat;rw [HNX.out] at ho;have HM17 := am (HM16.out.grown hg (Kd.S_ne HU16.out HM16.out.1 (by decide)) (Kd.S_ne HU16.out HM16.out.2.1 (by decide)) (Kd.S_ne HU16.out HM16.out.2.2 (by decide)));have HT17 := am (blk_grown HT16.out hg (Kd.S_ne HU16.out HT16.out (by decide)));have HO17 := am (Kd.R_over' HO16.out (v := u) (Kd.S_typed HU16.out) (by decide) hg);have HU0_17 := am (Kd.S_grown HU0_16.out hg (fun k_ hk e_ => by have := Kd.S_base HU16.out k_ e_.symm;omega));have HB17 := am (hbw16.out.trans (hb.mono HBw.out));have HS17 := am (Nat.le_trans (Nat.le_trans HBs.out HB16.out.size) hb.size);obtain ⟨A17,c17,e17⟩ := Kd.S_slice ho;subst e17;have HU17 := am ho;have hct17 : w17.cell? ⟨bt,1,none⟩ = some u := (blk_cell HT17.out 1).trans rfl;have hft17 := blk_frozen HT17.out 1;clear ho hb hg n1)
     | ((with_reducible refine gate_store (t := 26) (p := 119) rfl ?_);refine store_event (t := 26) (p := 119) (v := ?vo_w18) (w1 := (w17.setCell ⟨bt,1,none⟩ (.slice A17 (shrR m (r1.take (i + 1))).length c17))) ?hg ?ho ?hn ?hr ?_;(case ho => rfl);(case hg => rfl);(case hn => rfl);(case hr => first|(go_simp;done)|(go_simp;rfl));intro w18 hw;have HM18 := am (show IslM gs gq gz P (n : Int) (t : Int) (.slice A0 l0.length c0) (.slice A1 l1.length c1) k0 k1 w18 from by rw [hw];exact ⟨blk_far HM17.out.1 HBT.out.2.1 _,blk_far HM17.out.2.1 HBT.out.2.2.1 _,blk_far HM17.out.2.2 HBT.out.2.2.2 _⟩);have HT18 := am (show w18.heap[bt]? = some (.cells #[u0,.slice A17 (shrR m (r1.take (i + 1))).length c17] 45 (0,0)) from by rw [hw];exact blk_put HT17.out 1 _ rfl);have HU18 := am (show Kd.S (Kd.slice 22 (Kd.int .u64)) 41 w18 B (fun _ => True) (.slice A17 (shrR m (r1.take (i + 1))).length c17) (shrR m (r1.take (i + 1))) from by rw [hw];exact Kd.S_set HU17.out HT17.out (by decide) _ _);have HO18 := am (show Kd.R (Kd.int .u64) 22 w18 w.heap.size (fun _ => True) (.slice (some ad) r1.length cr) r1 from by rw [hw];exact Kd.R_set HO17.out HT17.out (by decide) _ _);have HU0_18 := am (show Kd.S (Kd.slice 22 (Kd.int .u64)) 41 w18 w.heap.size (fun k_ => k_ < B) u0 (shrR m r0) from by rw [hw];exact Kd.S_set HU0_17.out HT17.out (by decide) _ _);have HB18 := am (show Below w.heap.size w w18 from by rw [hw];exact HB17.out.setCell (p := ⟨bt,1,none⟩) HBT.out.1 _);have HS18 := am (show B ≤ w18.heap.size from by rw [hw];have := HS17.out;simpa [World.setCell] using this);clear hw))
    go_roundg (n - (i + 1))
    case measure => have := HK.out;omega
    case rel => exact ⟨i + 1,_,by go_num,⟨by omega⟩,HM18,HT18,HU18,HO18,HU0_18,HS18,HB18⟩
   ·have qi : decide ((i : Int) < (n : Int)) = false := decide_eq_false (by omega)
    have hin : i = r1.length := by have := HK.out;have := HRL1.out;omega
    obtain ⟨s0,s1,s2,s3,s4,s5,s6⟩ := HM.out.cells
    have HU2 := am (show Kd.S (Kd.slice 22 (Kd.int .u64)) 41 wr w.heap.size (fun _ => True) u (shrR m r1) from by have := Kd.S_lower HU.out HBw.out;rwa [hin,List.take_length] at this)
    go_wp2
    go_roundg 0
    case measure => omega
    case rel => exact ⟨u0,u,.inr (.inr ⟨rfl,rfl,⟨Kd.S_mono HU0.out (fun _ _ => trivial)⟩,HU2⟩),HM,HTw,HB⟩
 ·obtain ⟨A5,c5,e5,hc5,hC5⟩ := Kd.S_reads HU0.out
  obtain ⟨A6,c6,e6,hc6,hC6⟩ := Kd.S_reads HU1.out
  subst e5 e6
  obtain ⟨s0,s1,s2,s3,s4,s5,s6⟩ := HM.out.cells
  have t0 : wr.cell? ⟨bt,0,none⟩ = some (.slice A5 (shrR m r0).length c5) := (blk_cell HTw.out 0).trans rfl
  have t1 : wr.cell? ⟨bt,1,none⟩ = some (.slice A6 (shrR m r1).length c6) := (blk_cell HTw.out 1).trans rfl
  have HC6 := am hC6
  have HSc := am (shamir_Scale.calls P k0 A5 c5 (shrR m r0) Z1 wr.drew (Kd.C_drew hC5) hc5 hz1.out)
  clear hC5 hC6 HU0 HU1
  go_wp2
  refine start_ (n := 17) (S := (fun w' => w'.cell? ⟨gz,0,none⟩ = some (.int .u64 k0) ∧ w'.cell? ⟨bt,0,none⟩ = some (.slice A5 (shrR m r0).length c5) ∧ w'.cell? ⟨bt,1,none⟩ = some (.slice A6 (shrR m r1).length c6) ∧ w'.cell? ⟨gs,0,none⟩ = some (.int .u64 P) ∧ w'.cell? ⟨gs,1,none⟩ = some (.int .i64 (n : Int)) ∧ w'.cell? ⟨gs,2,none⟩ = some (.int .i64 (t : Int)) ∧ w'.cell? ⟨gz,1,none⟩ = some (.int .u64 k1))) (ds := []) (bz 17 0) (by kernel_rfl) rfl rfl ⟨s5,t0,t1,s0,s1,s2,s6⟩ (fun hHeld => ?_)
  refine pu 0 120 (bz 17 1) ?_
  refine pu 1 121 (bz 17 3) ?_
  refine pu 2 122 (bz 17 7) ?_
  refine pu 3 123 (bz 17 15) ?_
  refine tu 4 124 (bz 17 31) hHeld ?_
  refine pu 5 125 (bz 17 63) ?_
  refine tu 6 126 (bz 17 127) hHeld ?_
  refine pu 8 128 (bz 17 383) ?_
  refine tu 9 129 (bz 17 895) hHeld ?_
  refine tu 11 131 (bz 17 2943) hHeld ?_
  refine pu 12 132 (bz 17 7039) ?_
  refine tu 13 133 (bz 17 15231) hHeld ?_
  refine one_ (i := 7) (N := some 127) (bz 17 15359) rfl rfl (by kernel_rfl) (by decide) (fun K hK => ?_)
  refine goes_ Try.func15 (by kernel_rfl) rfl #[.int .u64 P,.int .u64 k0,.slice A5 (shrR m r0).length c5] (by rfl) rfl rfl (by (try simp only [List.map_toArray,List.map_cons,List.map_nil]);first|done|rfl) ?_
  with_reducible refine HSc.out.mono ?_
  rintro e wa ⟨va,rfl,hoa,hba⟩
  have ba : Below wr.heap.size wr wa := below_step (below_drew (Below.refl _ _)) hba
  obtain ⟨A7,c7,e7,hc7,hC7⟩ := Kd.S_reads hoa
  cases e7
  have HAd := am (shamir_Add.calls P A7 c7 Z1 A6 c6 (shrR m r1) Z2 wa hC7 hc7 (Kd.C_below HC6.out ba) hc6 hz2.out)
  clear hoa hC7
  refine ⟨_,rfl,?_⟩
  refine hK.out _ _ ⟨pw_cell_below ba (s5),pw_cell_below ba (t0),pw_cell_below ba (t1),pw_cell_below ba (s0),pw_cell_below ba (s1),pw_cell_below ba (s2),pw_cell_below ba (s6)⟩ (fun hHeld => ?_)
  clear hK K
  refine nm 127 ?_
  refine one_ (i := 10) (N := some 130) (bz 17 16383) rfl rfl (by kernel_rfl) (by decide) (fun K hK => ?_)
  refine goes_ Try.func11 (by kernel_rfl) rfl #[.int .u64 P,.slice A7 Z1.length c7,.slice A6 (shrR m r1).length c6] (by rfl) rfl rfl (by (try simp only [List.map_toArray,List.map_cons,List.map_nil]);first|done|rfl) ?_
  with_reducible refine HAd.out.mono ?_
  rintro e wb ⟨vb,rfl,hob,hbb⟩
  have bb_ : Below wr.heap.size wr wb := below_step ba hbb
  obtain ⟨A8,c8,e8,hc8,hC8⟩ := Kd.S_reads hob
  cases e8
  have HC8 := am hC8
  have HCo := am (shamir_Constant.calls k P (n : Int) (t : Int) k1 Z3 wb hz3.out)
  clear hob hC8
  refine ⟨_,rfl,?_⟩
  refine hK.out _ _ ⟨pw_cell_below bb_ (s5),pw_cell_below bb_ (t0),pw_cell_below bb_ (t1),pw_cell_below bb_ (s0),pw_cell_below bb_ (s1),pw_cell_below bb_ (s2),pw_cell_below bb_ (s6)⟩ (fun hHeld => ?_)
  clear hK K
  refine nm 130 ?_
  refine one_ (i := 14) (N := some 134) (bz 17 32767) rfl rfl (by kernel_rfl) (by decide) (fun K hK => ?_)
  refine goes_ Try.func17 (by kernel_rfl) rfl #[.agg #[.int .u64 P,.int .i64 (n : Int),.int .i64 (t : Int)],.int .u64 k1] (by rfl) rfl rfl (by (try simp only [List.map_toArray,List.map_cons,List.map_nil]);first|done|rfl) ?_
  with_reducible refine HCo.out.mono ?_
  rintro e wc ⟨vc,rfl,hoc,hbc⟩
  have bc_ : Below wr.heap.size wr wc := below_step bb_ hbc
  obtain ⟨A9,c9,e9,hc9,hC9⟩ := Kd.S_reads hoc
  cases e9
  have HSu := am (shamir_Sub.calls P A8 c8 Z2 A9 c9 Z3 Z4 wc (Kd.C_below HC8.out hbc) hc8 hC9 hc9 hz4.out)
  clear hoc hC9 hbc hbb hba
  refine ⟨_,rfl,?_⟩
  refine hK.out _ _ ⟨pw_cell_below bc_ (s5),pw_cell_below bc_ (t0),pw_cell_below bc_ (t1),pw_cell_below bc_ (s0),pw_cell_below bc_ (s1),pw_cell_below bc_ (s2),pw_cell_below bc_ (s6)⟩ (fun hHeld => ?_)
  clear hK K
  refine nm 134 ?_
  refine one_ (i := 15) (N := some 135) (bz 17 65535) rfl rfl (by kernel_rfl) (by decide) (fun K hK => ?_)
  refine goes_ Try.func13 (by kernel_rfl) rfl #[.int .u64 P,.slice A8 Z2.length c8,.slice A9 Z3.length c9] (by rfl) rfl rfl (by (try simp only [List.map_toArray,List.map_cons,List.map_nil]);first|done|rfl) ?_
  with_reducible refine HSu.out.mono ?_
  rintro e wd ⟨vd,rfl,hod,hbd⟩
  have bd_ : Below wr.heap.size wr wd := below_step bc_ hbd
  have HMd := am (HM.out.below bd_)
  have HBd := am (below_step HB.out bd_)
  have HOd := am (show Kd.S (Kd.slice 22 (Kd.int .u64)) 41 wd w.heap.size (fun _ => True) vd Z4 from Kd.S_lower hod (Nat.le_trans (below_size HB.out) bc_.size))
  obtain ⟨A10,c10,e10⟩ := Kd.S_slice hod
  subst e10
  refine ⟨_,rfl,?_⟩
  refine hK.out _ _ ⟨pw_cell_below bd_ (s5),pw_cell_below bd_ (t0),pw_cell_below bd_ (t1),pw_cell_below bd_ (s0),pw_cell_below bd_ (s1),pw_cell_below bd_ (s2),pw_cell_below bd_ (s6)⟩ (fun hHeld => ?_)
  clear hK K
  refine nm 135 ?_
  clear hod hbd
  refine pu 16 13 (bz 17 131071) ?_
  refine done_ (by kernel_rfl) ?_
  clear HSc HAd HCo HSu HC6 HC8 ba bb_ bc_ bd_ s0 s1 s2 s3 s4 s5 s6 t0 t1 HM HTw HB HBT hj
  have qW : ((W.length : Int) != (n : Int)) = false := bne_eq_false_iff_eq.mpr (by have := HWL.out;omega)
  obtain ⟨LZ,hLZ⟩ : ∃ l,l = [Z4] := ⟨_,rfl⟩
  have hlo2 := hlo.out
  rw [← hLZ] at hlo2
  have HLZ := am hLZ
  have HLO := am hlo2
  clear hLZ hlo2 hlo
  go_wp2_with (first
   | ((with_reducible refine gate_dst (N := 137) rfl ?_);refine Kd.R_lit (Kd.slice 41 (Kd.slice 22 (Kd.int .u64))) (w0 := w) w.heap.size 26 ?hg (N := 137) ?hd (xs := [Z4]) (inner := [.slice A10 Z4.length c10]) (ok := fun _ => True) (okp := fun _ => True) ?hr ?hp (fun _ hk => hk) trivial HBd.out (below_size HBd.out) (by simp) ?_;(case hd => rfl);(case hg => rfl);(case hr => first|(go_simp;done)|(go_simp;rfl));(case hp => exact (Reps.one (Kd.M_row (Kd.S_R HOd.out)) (Reps.none _ _)));intro v20 w20 ho hb hg hn_;clear hn_;rw [← HLZ.out] at ho;obtain ⟨A11,c11,e11,hc11,hC11⟩ := Kd.R_reads ho;subst e11;have hb20 : Below wd.heap.size wd w20 := (Below.refl wd.heap.size wd).grown hg (Nat.le_refl _) (fun k_ h => by cases h);have HM20 := am (HMd.out.below hb20);have HB20 := am hb;have HLs := am (shamir_LocalShares.calls k A11 c11 LZ W w20 hC11 hc11 HLO.out);clear ho hb hg hC11 hb20)
   | (go_at_call 20;(with_reducible refine HLs.out.mono ?_);rintro e w21 ⟨v21,rfl,ho,hb⟩;have HM21 := am (HM20.out.below hb);have HB21 := am (below_step HB20.out hb);have HW21 := am (Kd.S_lower ho (below_size HB20.out));obtain ⟨A12,c12,e12⟩ := Kd.S_slice ho;subst e12;obtain ⟨s0,s1,s2,s3,s4,s5,s6⟩ := HM21.out.cells;clear ho hb))
  go_loopg [15,16] n (fun kq v15 v16 w' => ∃ (i : Nat),v16 = .int .i64 (i : Int) ∧ Aside0 (kq + i = n) ∧ Aside0 (IslM gs gq gz P (n : Int) (t : Int) (.slice A0 l0.length c0) (.slice A1 l1.length c1) k0 k1 w') ∧ Aside0 (Kd.S (Kd.slice 22 (Kd.int .u64)) 41 w' w.heap.size (fun _ => True) (.slice A12 W.length c12) W) ∧ Aside0 (Kd.R k49 49 w' w.heap.size (fun _ => True) v15 (islP W i)) ∧ Aside0 (Below w.heap.size w w'))
  case atStart => exact ⟨0,rfl,⟨by omega⟩,HM21,HW21,⟨Kd.R_nil _ _ _ _ _⟩,HB21⟩
  case round =>
   clear HM21 HB21 HW21 s0 s1 s2 s3 s4 s5 s6 HM20 HB20 HLs HMd HBd HOd qW
   obtain ⟨i,rfl,HK,HM,HWw,HO,HB⟩ := hrel
   obtain ⟨s0,s1,s2,s3,s4,s5,s6⟩ := HM.out.cells
   by_cases hlt : i < n
   ·have qi : decide ((i : Int) < (n : Int)) = true := decide_eq_true (by omega)
    have p1 : ((0 : Int) ≤ (i : Int)) = True := eq_true (by omega)
    have p2 : ((i : Int) < (W.length : Int)) = True := eq_true (by have := HWL.out;omega)
    have hnx := islP_next W i
    have hwr := hWr.out i hlt
    obtain ⟨ad1,A4,c4,e1,hy1,hc4,hC4⟩ := at_L1 (Kd.S_reads' HWw.out).2.2 (i : Int) (by omega) (by have := HWL.out;omega)
    cases e1
    rw [Int.toNat_natCast] at hy1
    obtain ⟨y,hy⟩ : ∃ x,x = rd_L1 W (i : Int) := ⟨_,rfl⟩
    have hyd : y = W.getD i [] := by rw [hy];unfold rd_L1;rw [Int.toNat_natCast]
    rw [← hy] at hy1 hc4 hC4
    rw [← hyd] at hnx hwr
    have q3 : ((y.length : Int) != 1) = false := bne_eq_false_iff_eq.mpr (by omega)
    have p3 : ((0 : Int) < (y.length : Int)) = True := eq_true (by omega)
    have p4 : (0 < y.length) = True := eq_true (by omega)
    obtain ⟨ad2,e2,hy2⟩ := Kd.at_int hC4 (0 : Int) (by omega) (by omega)
    cases e2
    rw [show ((0 : Int)).toNat = 0 from rfl,Addr.add_zero'] at hy2
    obtain ⟨X,hX⟩ : ∃ x,x = y.getD 0 0 := ⟨_,rfl⟩
    rw [show rd y 0 = X from by rw [hX];rfl] at hy2
    rw [← hX] at hnx
    have hw1 : IntKind.i64.wrap ((i : Int) + 1) = ((i + 1 : Nat) : Int) := by rw [wrapI_id (by omega) (by omega)];omega
    have hw2 : IntKind.u64.wrap ((i + 1 : Nat) : Int) = ((i + 1 : Nat) : Int) := wrapU_id (by omega) (by omega)
    rw [show (i : Int) + 1 = ((i + 1 : Nat) : Int) from by omega] at hnx
    have HNX := am hnx
    clear hy hyd hX hnx hwr hC4
    go_wp2_with (first
     | ((with_reducible refine gate_builtin (b := .append) (xs := #[.tmp 156,.tmp 167]) rfl ?_);at_builtin;refine Kd.R_append k49 (w0 := w) w.heap.size rfl (.tmp 156) (.tmp 167) 47 49 (.agg #[(.int .u64 0),(.int .u64 0)]) 16 rfl Try.underlying47 info49 rfl (by decide) (by omega) u15 (islP W i) (⟨((i + 1 : Nat) : Int),X⟩ : S49) [.int .u64 ((i + 1 : Nat) : Int),.int .u64 X] (fun _ => True) (fun _ => False) rfl rfl (k49_mkM _ _ _ (⟨((i + 1 : Nat) : Int),X⟩ : S49)) (fun _ h => h.elim) (fun _ _ => trivial) HO.out HB.out (below_size HB.out) (by rw [islP_length];omega) ?_;intro v17 w17 ho hb hg hat;clear hat;rw [HNX.out] at ho;have HM17 := am (HM.out.grown hg (Kd.R_ne HO.out HM.out.1 (by decide)) (Kd.R_ne HO.out HM.out.2.1 (by decide)) (Kd.R_ne HO.out HM.out.2.2 (by decide)));have HW17 := am (Kd.S_over' HWw.out (v := u15) (Kd.R_typed HO.out) (by decide) hg);have HO17 := am ho;have HB17 := am hb;clear ho hb hg))
    go_roundg (n - (i + 1))
    case measure => have := HK.out;omega
    case rel => exact ⟨i + 1,by go_num,⟨by omega⟩,HM17,HW17,HO17,HB17⟩
   ·have qi : decide ((i : Int) < (n : Int)) = false := decide_eq_false (by omega)
    have hin : i = n := by have := HK.out;omega
    subst hin
    obtain ⟨A15,c15,e15,hc15,hC15⟩ := Kd.R_reads HO.out
    subst e15
    have HRe := am (shamir_Reconstruct.calls k P (t : Int) A15 c15 (islP W i) v 0 wr hC15 hc15 hre.out)
    have hl0 : 0 < l0.length := by have := HM1.out.1;have := HL0.out;omega
    have hl1 : 0 < l1.length := by have := HM1.out.1;have := HL1.out;omega
    have p3 : ((0 : Int) < (l0.length : Int)) = True := eq_true (by omega)
    have p4 : ((0 : Int) < (l1.length : Int)) = True := eq_true (by omega)
    have p3' : (0 < l0.length) = True := eq_true hl0
    have p4' : (0 < l1.length) = True := eq_true hl1
    clear hC15 HWw HO
    go_wp2_with (first
     | (go_at_call 24;(with_reducible refine HRe.out.mono ?_);rintro e w30 ⟨rfl,hb⟩;have HB30 := am (below_step HB.out hb);obtain ⟨z0,z1,z2,z3,z4,z5,z6⟩ := (HM.out.below hb).cells;clear hb))
    obtain ⟨ad1,e1,hy1⟩ := Kd.at_int (Kd.C_below hr0.out HB30.out) (0 : Int) (by omega) (by omega)
    cases e1
    obtain ⟨ad2,e2,hy2⟩ := Kd.at_int (Kd.C_below hr1.out HB30.out) (0 : Int) (by omega) (by omega)
    cases e2
    rw [show ((0 : Int)).toNat = 0 from rfl,Addr.add_zero'] at hy1 hy2
    go_quiet (first
     | (go_at_call 27;(with_reducible refine (field_Mul.calls k P k0 (rd l0 0) x1 _ hx1.out).mono ?_);rintro e w' ⟨rfl,⟨nd,rfl⟩⟩;(try first|exact ⟨rfl,_,World.drewN_drewN _ _ _⟩|exact ⟨rfl,_,Eq.trans (World.drewN_drewN _ _ _) (congrArg (World.drewN _) (Nat.add_assoc _ _ _))⟩))
     | (go_at_call 26;(with_reducible refine (field_Add.calls k P x1 (rd l1 0) x2 _ hx2.out).mono ?_);rintro e w' ⟨rfl,⟨nd,rfl⟩⟩;(try first|exact ⟨rfl,_,World.drewN_drewN _ _ _⟩|exact ⟨rfl,_,Eq.trans (World.drewN_drewN _ _ _) (congrArg (World.drewN _) (Nat.add_assoc _ _ _))⟩))
     | (go_at_call 25;(with_reducible refine (field_Sub.calls k P x2 k1 v _ hx3.out).mono ?_);rintro e w' ⟨rfl,⟨nd,rfl⟩⟩;(try first|exact ⟨rfl,_,World.drewN_drewN _ _ _⟩|exact ⟨rfl,_,Eq.trans (World.drewN_drewN _ _ _) (congrArg (World.drewN _) (Nat.add_assoc _ _ _))⟩)))
    go_wp2
    first|go_ret|((try simp only [Exit.inBlock,Exit.then]);refine bodyPost_ret (results_tmp rfl _ _ _) rfl ?_)
    refine ⟨by simp,?_⟩
    exact pw_below_drewN HB30.out _
end
end Go.Proofs.Ytjnkkfdlcbcelaa.Hw
end
section
namespace Go.Proofs.Ytjnkkfdlcbcelaa.Pure
open Go.RowKit Go.Proofs.Ytjnkkfdlcbcelaa.Pr Go.Proofs.Ytjnkkfdlcbcelaa.Hw Go.Proofs.Ytjnkkfdlcbcelaa.E Go.Proofs.Ytjnkkfdlcbcelaa.Pl Go.Proofs.YtjnkkfdlcbcelaaW.PrintWords Go.Proofs.YtjnkkfdlcbcelaaW.PrintLast Go.Proofs.YtjnkkfdlcbcelaaW.PrintMore
def sharesI (p : Int) (q : List Int) (m : Nat) : List Int := (List.range m).map fun i => evI p ((i + 1 : Nat) : Int) q
theorem sharesI_next (p : Int) (q : List Int) (m : Nat) : sharesI p q m ++ [evI p ((m + 1 : Nat) : Int) q] = sharesI p q (m + 1) := by unfold sharesI;rw [List.range_succ,List.map_append];rfl
theorem sharesI_length (p : Int) (q : List Int) (m : Nat) : (sharesI p q m).length = m := by simp [sharesI]
theorem sharesI_res {p : Int} (hp : Supp p) (q : List Int) (m : Nat) : ∀ x ∈ sharesI p q m,Res p x := fun x hx => by
 obtain ⟨i,_,rfl⟩ := List.mem_map.1 hx
 exact evI_res hp _ _
theorem sharesI_at (p : Int) (q : List Int) (m i : Nat) (h : i < m) : (sharesI p q m).getD i 0 = evI p ((i + 1 : Nat) : Int) q := by
 rw [Hw.getD_in _ _ (by rw [sharesI_length];exact h)];simp [sharesI]
theorem sharesI_ev {p : Int} (hp : Supp p) {q : List Int} (hq : ∀ x ∈ q,Res p x) (lq : q.length ≤ 1000) {n : Int} (hn : n ≤ 1000) (hnp : 0 < n → n < p) : Ev (fun k => shamir_Shares.f k p n q) (sharesI p q n.toNat) := by
 have hb := hp.bd
 refine up (Q := fun i => Ev (fun k => shamir_Shares.l0 k p n q (sharesI p q i) ((i + 1 : Nat) : Int)) (sharesI p q n.toNat)) (n := n.toNat) ?_ ?_
 ·refine Ev.step (fun k => ?_) (Ev.now _)
  simp only [shamir_Shares.l0]
  rw [if_neg (by omega)]
 ·intro i hi h
  rw [← sharesI_next] at h
  have hr : Res p ((i + 1 : Nat) : Int) := ⟨by omega,by have := hnp (by omega);omega⟩
  refine Ev.step (f := fun k => (poly_Eval.f k p q ((i + 1 : Nat) : Int)).bind fun t150 => (if (sharesI p q i).length < 17592186044416 then (shamir_Shares.l0 k p n q (sharesI p q i ++ [t150]) ((i + 1 + 1 : Nat) : Int)) else (none))) (fun k => ?_) (Ev.bind (eval_ev hp hr q hq (by omega)) (h.congr fun k => if_pos (by rw [sharesI_length];omega)))
  simp only [shamir_Shares.l0]
  rw [if_pos (by omega),wrapU_id (by omega) (by omega),wnat (by omega)]
theorem reconI_ev {p : Int} (hp : Supp p) {q xs : List Int} (hq : ∀ x ∈ q,Res p x) (hx : ∀ x ∈ xs,Res p x) (hn : (0 :: xs).Nodup) (t : Int) (h0 : 0 ≤ t) (ht : (q.length : Int) ≤ t + 1) (hl : t < (xs.length : Int)) (lx : xs.length ≤ 49) : Ev (fun k => shamir_Reconstruct.f k p t (ptsOf p xs q)) (q.getD 0 0,0) := by
 have hnx := (List.nodup_cons.1 hn).2
 have hpl : shamir_placed.f (ptsOf p xs q) = some true := by
  unfold shamir_placed.f
  rw [if_pos (by rw [ptsOf_length];omega),ptsOf_xs,decide_eq_true hn]
 have he := ipol_eq hp (ptsOf_ok hp hx q) (by rw [ptsOf_length];exact lx)
 rw [ptsOf_xs,if_pos hnx,if_pos hnx,polL_ptsOf hp hx hnx hq (by omega)] at he
 have hlt := trimL_length q
 have hj : Ev (fun k => shamir_Reconstruct.j0 k p t (ptsOf p xs q) false) (q.getD 0 0,0) := by
  refine Ev.step (f := fun k => (interpolate_Polynomial.f p (ptsOf p xs q)).bind fun bt182 => (if bt182.2 = 0 then ((poly_Degree.f k bt182.1).bind fun t186 => (if t186 > t then (some (0,9)) else ((poly_Coefficient.f bt182.1 0).bind fun t187 => (some (t187,0))))) else (some (0,bt182.2)))) (fun k => ?_) ?_
  ·simp only [shamir_Reconstruct.j0]
   rw [if_neg (by simp)]
  ·refine ev_now_bind he (Ev.congr (fun k => if_pos rfl) (Ev.bind (degree_ev (trimL q) (by omega)) (Ev.congr (fun k => if_neg ?_) ?_)))
   ·rw [trimL_trimL];omega
   ·have hc : poly_Coefficient.f (trimL q) 0 = some (q.getD 0 0) := by
     unfold poly_Coefficient.f
     rw [if_neg (by omega)]
     by_cases h : 0 < (trimL q).length
     ·rw [if_neg (by omega),if_pos (by omega),if_pos (by omega)]
      exact congrArg some ((rd_nat (trimL q) 0).trans (trimL_getD q 0))
     ·rw [if_pos (by omega),← trimL_getD,getD_out _ _ (by omega)]
    exact ev_now_bind hc (Ev.now _)
 refine hj.congr fun k => ?_
 unfold shamir_Reconstruct.f
 rw [if_neg (by omega),hpl,Option.bind_some,if_pos rfl,decide_eq_false (by rw [ptsOf_length];omega)]
theorem shrR_shr {p : Int} (hp : Supp p) {m : Nat} {l : List Int} {n : Nat} (hl : l.length = n) (hr : ∀ x ∈ l,Res p x) : Shr p (shrR m l) n m := by
 refine ⟨by rw [shrR_length,hl],fun x hx => ?_⟩
 obtain ⟨y,hy,rfl⟩ := List.mem_map.1 hx
 refine ⟨by simp,fun z hz => ?_⟩
 rcases List.mem_or_eq_of_mem_set hz with h|h
 ·rw [(List.mem_replicate.1 h).2];have := hp.bd;exact ⟨by omega,by omega⟩
 ·rw [h];exact hr y hy
theorem getD_row {l : List (List Int)} {i : Nat} (h : i < l.length) : l.getD i [] = l[i] := by rw [List.getD_eq_getElem?_getD,List.getElem?_eq_getElem h];rfl
theorem shrR_at (m : Nat) (hm : 0 < m) (l : List Int) (i : Nat) (h : i < l.length) : ((shrR m l).getD i []).getD 0 0 = l.getD i 0 := by
 rw [getD_row (by rw [shrR_length];exact h),Hw.getD_in _ _ h]
 unfold shrR
 rw [List.getElem_map,Hw.getD_in _ _ (by simpa using hm),List.getElem_set_self]
theorem rz_at (op : Int → Int → Int) {a b : List (List Int)} {p : Int} {n m i : Nat} (ha : Shr p a n m) (hb : Shr p b n m) (hi : i < n) (hm : 0 < m) : ((rowsZ op a b).getD i []).getD 0 0 = op ((a.getD i []).getD 0 0) ((b.getD i []).getD 0 0) := by
 have la := ha.1
 have lb := hb.1
 have hz : i < (rowsZ op a b).length := by rw [rz_length op (by omega)];omega
 have r1 := (ha.row hi).1
 have r2 := (hb.row hi).1
 rw [getD_row (by omega)] at r1
 rw [getD_row (by omega)] at r2
 rw [getD_row hz,rz_getElem op hz (by omega) (by omega),getD_row (l := a) (by omega),getD_row (l := b) (by omega),Hw.getD_in _ _ (by rw [List.length_zipWith];omega),List.getElem_zipWith,Hw.getD_in _ _ (by omega),Hw.getD_in _ _ (by omega)]
theorem const_at (c : Int) (n m i : Nat) (hi : i < n) (hm : 0 < m) : ((constL c n m).getD i []).getD 0 0 = c := by
 rw [getD_row (by rw [constL_length];exact hi)]
 unfold constL
 rw [List.getElem_replicate,Hw.getD_in _ _ (by simpa using hm),List.getElem_set_self]
def combL (p k0 k1 : Int) (a b : List Int) : List Int := addP p (addP p (a.map fun v => k0 * v % p) b) [(0 - k1) % p]
def combV (p k0 k1 y z : Int) : Int := ((k0 * y % p + z) % p - k1) % p
theorem evI_add' {p : Int} (hp : Supp p) (x : Int) (a b : List Int) : evI p x (addP p a b) = (evI p x a + evI p x b) % p := by rw [← evI_trimL hp,evI_addP hp]
theorem evI_scl {p : Int} (hp : Supp p) (x k : Int) (a : List Int) : evI p x (a.map fun v => k * v % p) = k * evI p x a % p := by
 haveI := nz hp
 refine T_inj hp (evI_res hp _ _) (Res.mod hp _) ?_
 rw [ev_evI hp,ev_scaleL hp,T_mod hp,T_mul,ev_evI hp]
theorem combL_ev {p : Int} (hp : Supp p) (k0 k1 x : Int) (a b : List Int) : evI p x (combL p k0 k1 a b) = combV p k0 k1 (evI p x a) (evI p x b) := by
 unfold combL combV
 rw [evI_add' hp,evI_add' hp,evI_scl hp]
 have e1 : evI p x [(0 - k1) % p] = (0 - k1) % p := by
  show (0 * x % p + (0 - k1) % p) % p = _
  rw [Int.zero_mul,Int.zero_emod,Int.zero_add,Int.emod_emod_of_dvd _ (Int.dvd_refl p)]
 rw [e1]
 generalize (k0 * evI p x a % p + evI p x b) % p = A
 rw [Int.add_emod,Int.emod_emod_of_dvd _ (Int.dvd_refl p),← Int.add_emod]
 congr 1;omega
theorem combL_length (p k0 k1 : Int) {a b : List Int} {m : Nat} (ha : a.length = m) (hb : b.length = m) (hm : 0 < m) : (combL p k0 k1 a b).length = m := by
 unfold combL
 rw [addP_length,addP_length,List.length_map,ha,hb]
 simp only [List.length_cons,List.length_nil]
 omega
theorem evI_at0 {p : Int} (hp : Supp p) {l : List Int} (hl : ∀ x ∈ l,Res p x) : evI p 0 l = l.getD 0 0 := by
 cases l with
 | nil => rfl
 | cons c l => show (evI p 0 l * 0 % p + c) % p = c;rw [Int.mul_zero,Int.zero_emod,Int.zero_add];exact (hl c (by simp)).eq
theorem isl_facts {P : Int} (hp : Supp P) (n t m : Nat) (hmt : m = t + 1) (h13 : n ≤ 13) (htn : t < n) (hnP : (n : Int) < P) {l0 l1 : List Int} (h0 : ∀ x ∈ l0,Res P x) (h1 : ∀ x ∈ l1,Res P x) (e0 : l0.length = m) (e1 : l1.length = m) {k0 k1 : Int} (hk0 : Res P k0) (hk1 : Res P k1) :
  ∃ Z1 Z2 Z3 Z4 W x1 x2 v,Ev (fun k => shamir_Shares.f k P (n : Int) l0) (sharesI P l0 n) ∧ Ev (fun k => shamir_Shares.f k P (n : Int) l1) (sharesI P l1 n) ∧ shamir_Scale.f P k0 (shrR m (sharesI P l0 n)) = some Z1 ∧ shamir_Add.f P Z1 (shrR m (sharesI P l1 n)) = some Z2 ∧ Ev (fun k => shamir_Constant.f k P (n : Int) (t : Int) k1) Z3 ∧ shamir_Sub.f P Z2 Z3 = some Z4 ∧
   Ev (fun k => shamir_LocalShares.f k [Z4]) W ∧ W.length = n ∧ (∀ i,i < n → (W.getD i []).length = 1) ∧ Ev (fun k => shamir_Reconstruct.f k P (t : Int) (islP W n)) (v,0) ∧ Ev (fun k => field_Mul.f k P k0 (rd l0 0)) x1 ∧ Ev (fun k => field_Add.f k P x1 (rd l1 0)) x2 ∧ Ev (fun k => field_Sub.f k P x2 k1) v := by
 have hpb := hp.bd
 have hm : 0 < m := by omega
 have s0 := shrR_shr hp (m := m) (sharesI_length P l0 n) (sharesI_res hp l0 n)
 have s1 := shrR_shr hp (m := m) (sharesI_length P l1 n) (sharesI_res hp l1 n)
 have z1 := rz_shr (op := fun x _ => (k0 * x) % P) (fun x y => Res.mod hp _) s0 s0
 have z2 := rz_shr (op := fun x y => (x + y) % P) (fun x y => Res.mod hp _) z1 s1
 have z3 := constL_shr hp hk1 n m
 have z4 := rz_shr (op := fun x y => (x - y) % P) (fun x y => Res.mod hp _) z2 z3
 have hc := sconst_ev (P := P) (N := (n : Int)) (T := (t : Int)) (c := k1) (by omega) (by omega) (by omega) (by omega)
 rw [Int.toNat_natCast,Int.toNat_natCast,← hmt] at hc
 obtain ⟨Z4,hZ4⟩ : ∃ Z,Z = rowsZ (fun x y => (x - y) % P) (rowsZ (fun x y => (x + y) % P) (rowsZ (fun x _ => (k0 * x) % P) (shrR m (sharesI P l0 n)) (shrR m (sharesI P l0 n))) (shrR m (sharesI P l1 n))) (constL k1 n m) := ⟨_,rfl⟩
 have hat : ∀ i,i < n → (Z4.getD i []).getD 0 0 = evI P ((i + 1 : Nat) : Int) (combL P k0 k1 l0 l1) := fun i hi => by
  rw [combL_ev hp,hZ4,rz_at _ z2 z3 hi hm,rz_at _ z1 s1 hi hm,rz_at _ s0 s0 hi hm,const_at _ _ _ _ hi hm,shrR_at m hm _ _ (by rw [sharesI_length];exact hi),shrR_at m hm _ _ (by rw [sharesI_length];exact hi),sharesI_at _ _ _ _ hi,sharesI_at _ _ _ _ hi]
  rfl
 rw [← hZ4] at z4
 have hlo := slocal_ev (l := [Z4]) (n := n) (by simp) (by simp) (fun a ha => by
  simp only [List.mem_cons,List.not_mem_nil,or_false] at ha
  rw [ha]
  exact ⟨z4.1,fun x hx => by rw [(z4.2 x hx).1];exact hm⟩) (by omega)
 have hw : ∀ i,i < n → (lsL [Z4] n).getD i [] = [(Z4.getD i []).getD 0 0] := fun i hi => by
  rw [getD_row (by rw [lsL_length];exact hi)];simp [lsL,lsR]
 obtain ⟨xs,hxs⟩ : ∃ xs,xs = (List.range n).map fun (i : Nat) => ((i + 1 : Nat) : Int) := ⟨_,rfl⟩
 have hxr : ∀ x ∈ xs,Res P x := fun x hx => by
  rw [hxs] at hx
  obtain ⟨i,hi,rfl⟩ := List.mem_map.1 hx
  have := List.mem_range.1 hi
  exact ⟨by omega,by show ((i + 1 : Nat) : Int) < P;omega⟩
 have hxn : (0 :: xs).Nodup := by
  rw [hxs]
  refine List.nodup_cons.2 ⟨fun h => ?_,List.Pairwise.map _ (fun a b h => ?_) (List.nodup_range (n := n))⟩
  ·obtain ⟨i,_,e⟩ := List.mem_map.1 h
   omega
  ·intro e;exact h (by omega)
 have hxl : xs.length = n := by rw [hxs];simp
 have hF : ∀ x ∈ combL P k0 k1 l0 l1,Res P x := addP_res hp _ _
 have hre := reconI_ev hp hF hxr hxn (t : Int) (by omega) (by rw [combL_length P k0 k1 e0 e1 hm];omega) (by omega) (by omega)
 have hpe : islP (lsL [Z4] n) n = ptsOf P xs (combL P k0 k1 l0 l1) := by
  unfold islP ptsOf
  rw [hxs,List.map_map]
  refine List.map_congr_left fun i hi => ?_
  have hi := List.mem_range.1 hi
  rw [hw i hi,Function.comp_apply,← hat i hi]
  simp
 rw [← hpe,← evI_at0 hp hF,combL_ev hp,evI_at0 hp h0,evI_at0 hp h1] at hre
 have hr0 : Res P (rd l0 0) := rdR h0 (n := 0) (by omega)
 have hr1 : Res P (rd l1 0) := rdR h1 (n := 0) (by omega)
 have hm1 := mul_ev hp hk0 hr0
 have ha1 := add_ev hp (Res.mod hp (k0 * rd l0 0)) hr1
 have hs1 := sub_ev hp (Res.mod hp (k0 * rd l0 0 % P + rd l1 0)) hk1
 have b0 := sharesI_ev hp h0 (by omega) (n := (n : Int)) (by omega) (fun _ => hnP)
 have b1 := sharesI_ev hp h1 (by omega) (n := (n : Int)) (by omega) (fun _ => hnP)
 rw [Int.toNat_natCast] at b0 b1
 exact ⟨_,_,_,Z4,_,_,_,_,b0,b1,sscale_eq hp hk0 s0 (by omega) (by omega),sadd_eq hp z1 s1 (by omega) (by omega),hc,by rw [hZ4];exact ssub_eq hp z2 z3 (by omega) (by omega),hlo,lsL_length _ _,fun i hi => by rw [hw i hi];rfl,hre,hm1,ha1,hs1⟩
set_option maxHeartbeats 1000000 in
theorem ShamirIsLinear (P N T : Int) (A0 : Option Addr) (c0 : Nat) (l0 : List Int) (A1 : Option Addr) (c1 : Nat) (l1 : List Int) (k0 k1 : Int) (w : World) (hr0 : Kd.C (Kd.int .u64) w A0 l0.length l0) (hc0 : l0.length ≤ c0) (hr1 : Kd.C (Kd.int .u64) w A1 l1.length l1) (hc1 : l1.length ≤ c1)
  (wP : (Lit.int .u64 P).wf = true) (w0 : ∀ x ∈ l0,(Lit.int .u64 x).wf = true) (w1 : ∀ x ∈ l1,(Lit.int .u64 x).wf = true) (wk0 : (Lit.int .u64 k0).wf = true) (wk1 : (Lit.int .u64 k1).wf = true) :
  Calls Try.prog 4 #[.agg #[.int .u64 P,.int .i64 N,.int .i64 T],.agg #[.slice A0 l0.length c0,.slice A1 l1.length c1],.agg #[.int .u64 k0,.int .u64 k1]] w fun e w' => e = .returned (.bool true) ∧ Below w.heap.size w w' := by
 have hP := wf64 wP
 have hse := setups_eq (P := P) (N := N) (T := T) hP.1
 obtain ⟨ka,ha⟩ := awake09
 obtain ⟨ks,hs⟩ := supported_ev P
 have hbe : ∀ l : List Int,l.length ≤ 13 → Ev (fun k => privityref05_Below.f k P l) (belowB P l) := fun l hl => below_ev P l (by omega)
 obtain ⟨kb0,hb0⟩ : ∃ K,∀ k,K ≤ k → l0.length ≤ 13 → privityref05_Below.f k P l0 = some (belowB P l0) := by
  by_cases h : l0.length ≤ 13
  ·obtain ⟨K,hK⟩ := hbe l0 h;exact ⟨K,fun k hk _ => hK k hk⟩
  ·exact ⟨0,fun k _ h2 => absurd h2 h⟩
 obtain ⟨kb1,hb1⟩ : ∃ K,∀ k,K ≤ k → l1.length ≤ 13 → privityref05_Below.f k P l1 = some (belowB P l1) := by
  by_cases h : l1.length ≤ 13
  ·obtain ⟨K,hK⟩ := hbe l1 h;exact ⟨K,fun k hk _ => hK k hk⟩
  ·exact ⟨0,fun k _ h2 => absurd h2 h⟩
 by_cases hall : supB P = true ∧ setB P N T = true ∧ (l0.length : Int) = wrap64 (T + 1) ∧ (l1.length : Int) = wrap64 (T + 1) ∧ belowB P l0 = true ∧ belowB P l1 = true ∧ k0 < P ∧ k1 < P
 ·obtain ⟨g1,g2,g3,g4,g5,g6,g7,g8⟩ := hall
  have hp := supB_of g1
  obtain ⟨t1,t2,t3,t4,t5,t6⟩ := setB_iff.1 g2
  obtain ⟨n,rfl⟩ : ∃ n : Nat,N = (n : Int) := ⟨N.toNat,by omega⟩
  obtain ⟨t,rfl⟩ : ∃ t : Nat,T = (t : Int) := ⟨T.toNat,by omega⟩
  have e0 : l0.length = t + 1 := by have := g3;unfold wrap64 at this;omega
  have e1 : l1.length = t + 1 := by have := g4;unfold wrap64 at this;omega
  obtain ⟨Z1,Z2,Z3,Z4,W,x1,x2,v,⟨q1,f1⟩,⟨q2,f2⟩,f3,f4,⟨q5,f5⟩,f6,⟨q7,f7⟩,f8,f9,⟨q10,f10⟩,⟨q11,f11⟩,⟨q12,f12⟩,⟨q13,f13⟩⟩ :=
   isl_facts hp n t (t + 1) rfl (by omega) (by omega) t3 (below_res g5 fun x hx => (wf64 (w0 x hx)).1) (below_res g6 fun x hx => (wf64 (w1 x hx)).1) e0 e1 ⟨(wf64 wk0).1,g7⟩ ⟨(wf64 wk1).1,g8⟩
  obtain ⟨k,hk⟩ : ∃ k,k = ka + ks + kb0 + kb1 + q1 + q2 + q5 + q7 + q10 + q11 + q12 + q13 := ⟨_,rfl⟩
  exact isl_main P (n : Int) (t : Int) A0 c0 l0 A1 c1 l1 k0 k1 k w ⟨hr0⟩ hc0 ⟨hr1⟩ hc1 ⟨ha k (by omega)⟩ (supB P) (setB P (n : Int) (t : Int)) (belowB P l0) (belowB P l1) ⟨hs k (by omega)⟩ ⟨hse⟩ ⟨hb0 k (by omega)⟩ ⟨hb1 k (by omega)⟩ n t (t + 1) rfl (by omega) (by omega) rfl rfl g1 g2 e0 e1 g5 g6 g7 g8
   (sharesI P l0 n) (sharesI P l1 n) ⟨f1 k (by omega)⟩ ⟨f2 k (by omega)⟩ (sharesI_length _ _ _) (sharesI_length _ _ _) Z1 Z2 Z3 Z4 W ⟨f3⟩ ⟨f4⟩ ⟨f5 k (by omega)⟩ ⟨f6⟩ ⟨f7 k (by omega)⟩ f8 ⟨f9⟩ x1 x2 v ⟨f10 k (by omega)⟩ ⟨f11 k (by omega)⟩ ⟨f12 k (by omega)⟩ ⟨f13 k (by omega)⟩
 ·obtain ⟨k,hk⟩ : ∃ k,k = ka + ks + kb0 + kb1 := ⟨_,rfl⟩
  exact isl_skip P N T A0 c0 l0 A1 c1 l1 k0 k1 k w ⟨hr0⟩ hc0 ⟨hr1⟩ hc1 ⟨ha k (by omega)⟩ (supB P) (setB P N T) (belowB P l0) (belowB P l1) ⟨hs k (by omega)⟩ ⟨hse⟩ ⟨hb0 k (by omega)⟩ ⟨hb1 k (by omega)⟩ ⟨fun h => by have := setB_iff.1 h;omega⟩ hall
end Go.Proofs.Ytjnkkfdlcbcelaa.Pure
end
section
namespace Go.Proofs.Ytjnkkfdlcbcelaa.Op
open Go.RowKit Go.Proofs.YtjnkkfdlcbcelaaW.PrintWords
def OpenK {α : Type} (P : Program) (t : TypeId) (d : Kd α) (Q : α → Prop) : Prop :=
 ∀ {H : Type} {enc : TypeId × Value → H} {w : World} {base : Nat} {sp : Nat → Bool} {hd : Bool} {fuel : Nat} {cs : List Value} {x : DataW H × List MemPlace},DataW.trod enc P w base sp hd fuel t cs = some x → ∃ v : α,d.K w v cs ∧ Q v
theorem openInt {P : Program} {t : TypeId} {k : IntKind} (ht : P.underlying t = some (.int k)) : OpenK P t (Kd.int k) (fun n => (Lit.int k n).wf = true) := by
 intro H enc w base sp hd fuel cs x h
 obtain ⟨n,rfl,_,hw⟩ := DataW.trod_int ht h
 exact ⟨n,rfl,hw⟩
theorem exists_list {α : Type} {R : Nat → α → Prop} : ∀ (n : Nat),(∀ i,i < n → ∃ v,R i v) → ∃ l : List α,l.length = n ∧ ∀ i v,l[i]? = some v → R i v
 | 0,_ => ⟨[],rfl,fun i v h => by simp at h⟩
 | n + 1,h => by
  obtain ⟨l,hl,hr⟩ := exists_list n (fun i hi => h i (by omega))
  obtain ⟨v,hv⟩ := h n (by omega)
  refine ⟨l ++ [v],by simp [hl],fun i u hu => ?_⟩
  by_cases hi : i < n
  ·rw [List.getElem?_append_left (by omega)] at hu
   exact hr i u hu
  ·rw [List.getElem?_append_right (by omega)] at hu
   by_cases h0 : i - l.length = 0
   ·rw [h0] at hu
    simp only [List.getElem?_cons_zero,Option.some.injEq] at hu
    rw [← hu,show i = n from by omega];exact hv
   ·rw [List.getElem?_eq_none (by simp;omega)] at hu;cases hu
theorem openSlice {α : Type} {P : Program} {t e : TypeId} {d : Kd α} {Q : α → Prop} (ht : P.underlying t = some (.slice e)) (hc : P.cellsOf e = d.sz) (he : OpenK P e d Q) : OpenK P t (Kd.slice e d) (fun l => ∀ x ∈ l,Q x) := by
 intro H enc w base sp hd fuel cs x h
 rcases DataW.trod_slice ht h with ⟨rfl,_⟩|⟨a,len,cap,elems,rest,n,_,rfl,_,_,hlc,hm,hlen,hel,_,_⟩
 ·exact ⟨[],⟨none,0,rfl,Nat.le_refl _,rfl,Nat.zero_le _,fun h => absurd h (Nat.lt_irrefl 0)⟩,fun x hx => by cases hx⟩
 ·have each : ∀ i,i < len → ∃ v,(∃ c,c.length = d.sz ∧ d.K w v c ∧ ∀ j u,c[j]? = some u → w.cell? (a.add (i * d.sz + j)) = some u) ∧ Q v := by
   intro i hi
   have h1 := hel i hi
   rw [List.getElem?_eq_getElem (by omega),hc] at h1
   obtain ⟨c,hcs,htr⟩ := Option.bind_eq_some_iff.1 h1
   obtain ⟨v,hk,hq⟩ := he htr
   refine ⟨v,⟨c,d.K_len hk,hk,fun j u hu => ?_⟩,hq⟩
   have h2 := World.cells?_some hcs
   have hj := (List.getElem?_eq_some_iff.1 hu).1
   have h3 := h2.2.2 j (by rw [← d.K_len hk];exact hj)
   rw [hu] at h3
   rw [← h3,← Addr.add_add]
  obtain ⟨l,hl,hr⟩ := exists_list len each
  refine ⟨l,⟨some a,cap,by rw [hl],by omega,rfl,by rw [hl];simp only [maxLen] at hm;omega,fun _ => ⟨a,rfl,fun j p hj => (hr j p hj).1⟩⟩,fun x hx => ?_⟩
  obtain ⟨i,hi,rfl⟩ := List.getElem_of_mem hx
  exact (hr i _ (List.getElem?_eq_getElem hi)).2
theorem openFields {P : Program} {H : Type} {enc : TypeId × Value → H} {w : World} {base : Nat} {sp : Nat → Bool} {hd : Bool} {fuel : Nat} {t : TypeId} {cs : List Value} {x : DataW H × List MemPlace} {fs : Array Field} (ht : P.underlying t = some (.struct fs))
  (h : DataW.trod enc P w base sp hd fuel t cs = some x) : cs.length = P.cellsOf t ∧ ∀ (i : Nat) (f : Field),fs[i]? = some f → ∃ n y,DataW.trod enc P w base sp hd n f.type ((cs.drop f.offset).take (P.cellsOf f.type)) = some y := by
 obtain ⟨xs,n,_,_,hl,hlen,hf⟩ := DataW.trod_struct ht h
 refine ⟨hl,fun i f hi => ?_⟩
 have h1 := hf i f hi
 have h2 : i < fs.size := (Array.getElem?_eq_some_iff.1 hi).1
 rw [List.getElem?_eq_getElem (by omega)] at h1
 exact ⟨n,_,h1⟩
theorem openElems {P : Program} {H : Type} {enc : TypeId × Value → H} {w : World} {base : Nat} {sp : Nat → Bool} {hd : Bool} {fuel : Nat} {t : TypeId} {cs : List Value} {x : DataW H × List MemPlace} {n : Nat} {e : TypeId} (ht : P.underlying t = some (.array n e))
  (h : DataW.trod enc P w base sp hd fuel t cs = some x) : cs.length = P.cellsOf t ∧ ∀ (i : Nat),i < n → ∃ m y,DataW.trod enc P w base sp hd m e ((cs.drop (i * P.cellsOf e)).take (P.cellsOf e)) = some y := by
 obtain ⟨xs,m,_,_,hl,hlen,hf⟩ := DataW.trod_array ht h
 refine ⟨hl,fun i hi => ?_⟩
 have h1 := hf i hi
 rw [List.getElem?_eq_getElem (by omega)] at h1
 exact ⟨m,_,h1⟩
theorem okWide_arr {P : Program} {w : World} {r : Reach} {base : Nat} {t : TypeId} {v : Value} {n : Nat} {e : TypeId} (ht : P.underlying t = some (.array n e)) (h : Value.okWide P w r base t v) : ∃ cs,v = .agg cs ∧ cs.size = P.cellsOf t := by
 simp only [Value.okWide,ht] at h
 obtain ⟨cs,h1,h2,_⟩ := h
 exact ⟨cs,h1,h2⟩
end Go.Proofs.Ytjnkkfdlcbcelaa.Op
end
section
/- The row of the law ShamirIsLinear, out of its plain law and the walk. -/
namespace Go.Proofs.Ytjnkkfdlcbcelaa.shamirIsLinear
open Go.ChangeShapes Go.WideShapes Go.ChangeAt Go.RowKit Go.Proofs.Ytjnkkfdlcbcelaa.Pr Go.Proofs.YtjnkkfdlcbcelaaW.PrintWords
theorem own : ownKnob Try.prog.godebug = none := by kernel_rfl
theorem laidOut : laidOutB Try.prog = true := by kernel_rfl
set_option maxRecDepth 100000 in
theorem arr2 (cs : Array Value) (h : cs.size = 2) : ∃ c0_ c1_, cs = #[c0_, c1_] := by
  obtain ⟨l_⟩ := cs
  match l_, h with
  | [c0_, c1_], _ => exact ⟨_, _, rfl⟩
set_option maxRecDepth 100000 in
theorem arr3 (cs : Array Value) (h : cs.size = 3) : ∃ c0_ c1_ c2_, cs = #[c0_, c1_, c2_] := by
  obtain ⟨l_⟩ := cs
  match l_, h with
  | [c0_, c1_, c2_], _ => exact ⟨_, _, _, rfl⟩
set_option maxHeartbeats 4000000 in
set_option maxRecDepth 100000 in
theorem lifted (os : Os) (started : os.Started) (H : Type) (enc : TypeId × Value → H) :
    ReturnsInHanded {} Try.checked os 4 .any (Rows.shamirIsLinearSpec.pre6 enc Try.prog Try.f4 Rows.shamirIsLinearRow.domain false) (Rows.shamirIsLinearSpec.post enc Try.prog Try.f4 false true false false) := by
  refine returnsInHanded_of_change_sized (C := Try.checked) own started (by kernel_rfl) Try.func4
    (ChangeSpec.witness6 (enc := enc) (C := Try.checked) false ⟨#[], #[.agg #[.int .u64 0, .int .i64 0, .int .i64 0], .agg #[.slice none 0 0, .slice none 0 0], .agg #[.int .u64 0, .int .u64 0]], []⟩ 8 (by kernel_rfl) (by kernel_rfl) (by kernel_rfl) (by kernel_rfl)) ?_
  intro W base args ds gs before hval0 hW hcnd hsz0 _
  have hval : ∀ (j : Nat) t v, Try.f4.params[j]? = some t → args[j]? = some v → Value.okWide Try.prog W .any base t v := hval0
  have hW' := hW
  obtain ⟨p, q, hA0, hV, rfl, hfz, hnd⟩ := hW
  have hA : DataW.TrodAll enc Try.prog W 0 (fun _ => true) true Try.f4.params.toList args.toList ds p := hA0
  rw [Try.params4] at hA hval
  obtain ⟨v0, vs0, d0, ds0, p0, q0, hargs, rfl, rfl, h0, r0⟩ := trodAll_cons hA
  obtain ⟨v1, vs1, d1, ds1, p1, q1, rfl, rfl, rfl, h1, r1⟩ := trodAll_cons r0
  obtain ⟨v2, vs2, d2, ds2, p2, q2, rfl, rfl, rfl, h2, r2⟩ := trodAll_cons r1
  obtain ⟨rfl, rfl, rfl⟩ := trodAll_nil r2
  obtain rfl : args = #[v0, v1, v2] := by cases args; simp_all
  obtain ⟨rfl, rfl⟩ := trodVars_none hV
  have k0 := h0
  have lt0 : ∀ x ∈ p0, x.block < W.heap.size := by obtain ⟨m, hm⟩ := k0; exact DataW.trod_lt m _ _ _ hm
  obtain ⟨cs0, rfl, hs0⟩ := okWide_struct Try.underlying24 (hval 0 24 v0 rfl rfl)
  have hN0 : Try.prog.cellsOf 24 = 3 := by kernel_rfl
  rw [hN0] at hs0
  obtain ⟨x0_0, x0_1, x0_2, rfl⟩ := arr3 cs0 hs0
  obtain ⟨fu0, hf0⟩ := h0
  have hg0 : DataW.trod enc Try.prog W 0 (fun _ => true) true fu0 24 [x0_0, x0_1, x0_2] = some (d0, p0) := hf0
  have f0 := (Op.openFields Try.underlying24 hg0).2
  obtain ⟨n0_0, y0_0, e0_0⟩ := f0 0 _ rfl
  have b0_0 : DataW.trod enc Try.prog W 0 (fun _ => true) true n0_0 22 [x0_0] = some y0_0 := e0_0
  obtain ⟨a0_0, e0_0, w0_0⟩ := (Op.openInt (k := .u64) Try.underlying22) b0_0
  cases e0_0
  obtain ⟨n0_1, y0_1, e0_1⟩ := f0 1 _ rfl
  have b0_1 : DataW.trod enc Try.prog W 0 (fun _ => true) true n0_1 3 [x0_1] = some y0_1 := e0_1
  obtain ⟨a0_1, e0_1, w0_1⟩ := (Op.openInt (k := .i64) Try.underlying3) b0_1
  cases e0_1
  obtain ⟨n0_2, y0_2, e0_2⟩ := f0 2 _ rfl
  have b0_2 : DataW.trod enc Try.prog W 0 (fun _ => true) true n0_2 3 [x0_2] = some y0_2 := e0_2
  obtain ⟨a0_2, e0_2, w0_2⟩ := (Op.openInt (k := .i64) Try.underlying3) b0_2
  cases e0_2
  have k1 := h1
  have lt1 : ∀ x ∈ p1, x.block < W.heap.size := by obtain ⟨m, hm⟩ := k1; exact DataW.trod_lt m _ _ _ hm
  obtain ⟨cs1, rfl, hs1⟩ := Op.okWide_arr Try.underlying42 (hval 1 42 v1 rfl rfl)
  have hN1 : Try.prog.cellsOf 42 = 2 := by kernel_rfl
  rw [hN1] at hs1
  obtain ⟨x1_0, x1_1, rfl⟩ := arr2 cs1 hs1
  obtain ⟨fu1, hf1⟩ := h1
  have hg1 : DataW.trod enc Try.prog W 0 (fun _ => true) true fu1 42 [x1_0, x1_1] = some (d1, p1) := hf1
  have f1 := (Op.openElems Try.underlying42 hg1).2
  obtain ⟨n1_0, y1_0, e1_0⟩ := f1 0 (by decide)
  have b1_0 : DataW.trod enc Try.prog W 0 (fun _ => true) true n1_0 41 [x1_0] = some y1_0 := e1_0
  obtain ⟨z1_0, ⟨A1_0, c1_0, e1_0, hc1_0, g1_0⟩, w1_0⟩ := (Op.openSlice (d := (Kd.int .u64)) Try.underlying41 (by kernel_rfl) (Op.openInt (k := .u64) Try.underlying22)) b1_0
  cases e1_0
  obtain ⟨n1_1, y1_1, e1_1⟩ := f1 1 (by decide)
  have b1_1 : DataW.trod enc Try.prog W 0 (fun _ => true) true n1_1 41 [x1_1] = some y1_1 := e1_1
  obtain ⟨z1_1, ⟨A1_1, c1_1, e1_1, hc1_1, g1_1⟩, w1_1⟩ := (Op.openSlice (d := (Kd.int .u64)) Try.underlying41 (by kernel_rfl) (Op.openInt (k := .u64) Try.underlying22)) b1_1
  cases e1_1
  have k2 := h2
  have lt2 : ∀ x ∈ p2, x.block < W.heap.size := by obtain ⟨m, hm⟩ := k2; exact DataW.trod_lt m _ _ _ hm
  obtain ⟨cs2, rfl, hs2⟩ := Op.okWide_arr Try.underlying43 (hval 2 43 v2 rfl rfl)
  have hN2 : Try.prog.cellsOf 43 = 2 := by kernel_rfl
  rw [hN2] at hs2
  obtain ⟨x2_0, x2_1, rfl⟩ := arr2 cs2 hs2
  obtain ⟨fu2, hf2⟩ := h2
  have hg2 : DataW.trod enc Try.prog W 0 (fun _ => true) true fu2 43 [x2_0, x2_1] = some (d2, p2) := hf2
  have f2 := (Op.openElems Try.underlying43 hg2).2
  obtain ⟨n2_0, y2_0, e2_0⟩ := f2 0 (by decide)
  have b2_0 : DataW.trod enc Try.prog W 0 (fun _ => true) true n2_0 22 [x2_0] = some y2_0 := e2_0
  obtain ⟨a2_0, e2_0, w2_0⟩ := (Op.openInt (k := .u64) Try.underlying22) b2_0
  cases e2_0
  obtain ⟨n2_1, y2_1, e2_1⟩ := f2 1 (by decide)
  have b2_1 : DataW.trod enc Try.prog W 0 (fun _ => true) true n2_1 22 [x2_1] = some y2_1 := e2_1
  obtain ⟨a2_1, e2_1, w2_1⟩ := (Op.openInt (k := .u64) Try.underlying22) b2_1
  cases e2_1
  clear hA0 hval0 hsz0
  refine (Pure.ShamirIsLinear a0_0 a0_1 a0_2 A1_0 c1_0 z1_0 A1_1 c1_1 z1_1 a2_0 a2_1 W g1_0 hc1_0 g1_1 hc1_1 w0_0 w1_0 w1_1 w2_0 w2_1).mono fun e W' ⟨he, bel⟩ => ?_
  subst he
  exact ⟨_, rfl, _, _, _, [], _, [], hW', trodAll_mk1 (shut_bool Try.underlying4 _), (trodAll_cons_mk (Below.trod laidOut (by kernel_rfl) (of_decide_eq_true (by kernel_rfl)) k0 bel lt0) (trodAll_cons_mk (Below.trod laidOut (by kernel_rfl) (of_decide_eq_true (by kernel_rfl)) k1 bel lt1) (trodAll_cons_mk (Below.trod laidOut (by kernel_rfl) (of_decide_eq_true (by kernel_rfl)) k2 bel lt2) trodAll_mk0))), rfl, bel.frame _, fun h => by cases h⟩
theorem over : Rows.shamirIsLinearRow.holds Try.pinned (OpenSpec.ofChange Rows.shamirIsLinearSpec) :=
  OpenClaim.holds_of_wide 4 Try.f4 rfl rfl rfl rfl rfl rfl rfl ⟨rfl, rfl, rfl, rfl, rfl⟩ rfl rfl rfl rfl rfl (by kernel_rfl) Try.func4 (by kernel_rfl)
    (of_decide_eq_true (by kernel_rfl)) (by unfold Func.isWrapper; first | (rw [if_pos (by decide +kernel)]; kernel_rfl) | (rw [if_neg (by decide +kernel)]; exact ⟨rfl, rfl⟩))
    (fun os started H enc _ => lifted os started H enc)
theorem proved : Rows.ShamirIsLinearSaid := over
#print axioms proved
end Go.Proofs.Ytjnkkfdlcbcelaa.shamirIsLinear
namespace Go.Proofs.Ytjnkkfdlcbcelaa
/-- The row, under a short name, for the claim. -/
theorem shamirIsLinear_holds : Rows.ShamirIsLinearSaid := shamirIsLinear.proved
end Go.Proofs.Ytjnkkfdlcbcelaa
end
