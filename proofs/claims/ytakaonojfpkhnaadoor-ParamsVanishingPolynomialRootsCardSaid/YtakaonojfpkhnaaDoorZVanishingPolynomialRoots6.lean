/- The row of the law ParamsVanishingPolynomialRoots, out of its plain law and the walk. -/
import Derived.Test.YtakaonojfpkhnaaDoorZVanishingPolynomialRoots1
import Derived.Test.YtakaonojfpkhnaaDoorZVanishingPolynomialRoots3
import Derived.Test.YtakaonojfpkhnaaDoorZVanishingPolynomialRoots4
import Derived.Test.YtakaonojfpkhnaaDoorZVanishingPolynomialRoots5
import Derived.Test.YtakaonojfpkhnaaDoorZVanishingPolynomialRoots2
import Derived.Test.YtakaonojfpkhnaaDoorProg
import Derived.ChangeArms
import Derived.DataReads
import Derived.DataElems
import Derived.ShutString
import Derived.ChangeSame
import Derived.OpenShut
import Derived.Test.YtakaonojfpkhnaaDoorZVanishingPolynomialRoots0
import Derived.Test.YtakaonojfpkhnaaDoorRows
import Derived.Test.YtakaonojfpkhnaaDoorTie
import Derived.Test.YtakaonojfpkhnaaDoorCards
import Derived.SevenTiedAt
import Derived.ProofKit
import Derived.LaidMore
import Derived.Stop.Joined
import Derived.WalkKit
import Derived.ChangeOld
import Derived.Below
import Derived.SizedLaws
section
/- Printed by a program of this seat (the kit's printer, with the functions that were proved by hand given to it). What stands here: the functions that the statements reach, as plain functions, and that the Go code computes them. -/
namespace Go.Proofs.YtakaonojfpkhnaaDoor.Pr
open Go.RowKit Go.Proofs.YtakaonojfpkhnaaDoorW.PrintWords Go.Proofs.YtakaonojfpkhnaaDoorW.PrintLast Go.Proofs.YtakaonojfpkhnaaDoorW.PrintMore
attribute [local go_sem] max2_int min2_int max_two min_two max_three min_three max_four min_four   -- for this text's walks alone
set_option linter.unusedVariables false
set_option linter.unusedSimpArgs false

open Go.Proofs.YtakaonojfpkhnaaDoor.Hw
/-! ### privitylaw12_ParamsVanishingPolynomialRoots: function 8 -/
mutual
def privitylaw12_ParamsVanishingPolynomialRoots.j0 : Nat → List Int → List Int → Bool → Int → Int → Int → Option (Bool)
 | 0,_,_,_,_,_,_ => none
 | k + 1,x1,x5,x45,x359000,x359001,x359002 => if x45 = true then (some false) else ((params_ExtendCoalition.f x359000 x359001 x359002 x1).bind fun t370 => (privitylaw12_ParamsVanishingPolynomialRoots.l0 k x5 t370 1 x359000 x359001 x359002))
def privitylaw12_ParamsVanishingPolynomialRoots.l0 : Nat → List Int → List Int → Int → Int → Int → Int → Option (Bool)
 | 0,_,_,_,_,_,_ => none
 | k + 1,x5,x6,x7,x359000,x359001,x359002 => if x7 ≤ x359001 then ((poly_Eval.f k x359000 x5 (IntKind.u64.wrap (x7))).bind fun t373 => ((privityref12_In.f k x6 x7).bind fun t374 => (if ((t373 == 0) != t374) = true then (some false) else (privitylaw12_ParamsVanishingPolynomialRoots.l0 k x5 x6 (wrap64 (x7 + 1)) x359000 x359001 x359002)))) else (some true)
end
def privitylaw12_ParamsVanishingPolynomialRoots.f (k : Nat) (a0_0 : Int) (a0_1 : Int) (a0_2 : Int) (l1 : List Int) : Option (Bool) := (privitylaw12_awake.f).bind fun t359 => (if t359 = true then ((privityref12_ValidCoalition.f k a0_0 a0_1 a0_2 l1).bind fun t360 => (if t360 = true then ((params_VanishingPolynomial.f k a0_0 a0_1 a0_2 l1).bind fun t361 => ((privityref12_VanishingPolynomial.f k a0_0 a0_1 a0_2 l1).bind fun t364 => ((privityref05_Same.f k t361 t364).bind fun t367 => (if t367 = true then (if (t361.length : Int) = (wrap64 (a0_2 + 1)) then (if 0 ≤ a0_2 then (if a0_2 < (t361.length : Int) then (if (rd t361 a0_2) = 0 then (privitylaw12_ParamsVanishingPolynomialRoots.j0 k l1 t361 true a0_0 a0_1 a0_2) else ((poly_Eval.f k a0_0 t361 0).bind fun t369 => (privitylaw12_ParamsVanishingPolynomialRoots.j0 k l1 t361 (t369 != 1) a0_0 a0_1 a0_2))) else (none)) else (none)) else (privitylaw12_ParamsVanishingPolynomialRoots.j0 k l1 t361 true a0_0 a0_1 a0_2)) else (privitylaw12_ParamsVanishingPolynomialRoots.j0 k l1 t361 true a0_0 a0_1 a0_2))))) else (some true))) else (some false))
set_option maxHeartbeats 8000000 in
set_option maxRecDepth 100000 in
theorem privitylaw12_ParamsVanishingPolynomialRoots.calls (k : Nat) (a0_0 : Int) (a0_1 : Int) (a0_2 : Int) (A1 : Option Addr) (c1 : Nat) (l1 : List Int) (r : Bool) (w : World) (hr1 : Kd.C (Kd.int .i64) w A1 l1.length l1) (hc1 : l1.length ≤ c1) (hr1_ : r = true) (hx_ : Hx w) (h : privitylaw12_ParamsVanishingPolynomialRoots.f k a0_0 a0_1 a0_2 l1 = some r) :
  Calls Tryd.prog 8 #[.agg #[.int .u64 a0_0,.int .i64 a0_1,.int .i64 a0_2],.slice A1 l1.length c1] w fun e w' => e = .returned (.bool r) ∧ Below w.heap.size w w' := by
 have HX_ := Aside0.mk hx_
 clear hx_
 have HRT_ := Aside0.mk hr1_
 clear hr1_
 have hu24 := Tryd.underlying24
 have HR1 := Aside0.mk hr1
 have HC1 := Aside0.mk hc1
 clear hr1 hc1
 have HB := Aside0.mk (Below.refl w.heap.size w)
 have H : ((privitylaw12_awake.f).bind fun t359 => (if t359 = true then ((privityref12_ValidCoalition.f k a0_0 a0_1 a0_2 l1).bind fun t360 => (if t360 = true then ((params_VanishingPolynomial.f k a0_0 a0_1 a0_2 l1).bind fun t361 => ((privityref12_VanishingPolynomial.f k a0_0 a0_1 a0_2 l1).bind fun t364 => ((privityref05_Same.f k t361 t364).bind fun t367 => (if t367 = true then (if (t361.length : Int) = (wrap64 (a0_2 + 1)) then (if 0 ≤ a0_2 then (if a0_2 < (t361.length : Int) then (if (rd t361 a0_2) = 0 then (privitylaw12_ParamsVanishingPolynomialRoots.j0 k l1 t361 true a0_0 a0_1 a0_2) else ((poly_Eval.f k a0_0 t361 0).bind fun t369 => (privitylaw12_ParamsVanishingPolynomialRoots.j0 k l1 t361 (t369 != 1) a0_0 a0_1 a0_2))) else (none)) else (none)) else (privitylaw12_ParamsVanishingPolynomialRoots.j0 k l1 t361 true a0_0 a0_1 a0_2)) else (privitylaw12_ParamsVanishingPolynomialRoots.j0 k l1 t361 true a0_0 a0_1 a0_2))))) else (some true))) else (some false))) = some r := h
 clear h
 replace H := Option.bind_eq_some_iff.mp H
 obtain ⟨t359,A30,H⟩ := H
 replace H : (if t359 = true then ((privityref12_ValidCoalition.f k a0_0 a0_1 a0_2 l1).bind fun t360 => (if t360 = true then ((params_VanishingPolynomial.f k a0_0 a0_1 a0_2 l1).bind fun t361 => ((privityref12_VanishingPolynomial.f k a0_0 a0_1 a0_2 l1).bind fun t364 => ((privityref05_Same.f k t361 t364).bind fun t367 => (if t367 = true then (if (t361.length : Int) = (wrap64 (a0_2 + 1)) then (if 0 ≤ a0_2 then (if a0_2 < (t361.length : Int) then (if (rd t361 a0_2) = 0 then (privitylaw12_ParamsVanishingPolynomialRoots.j0 k l1 t361 true a0_0 a0_1 a0_2) else ((poly_Eval.f k a0_0 t361 0).bind fun t369 => (privitylaw12_ParamsVanishingPolynomialRoots.j0 k l1 t361 (t369 != 1) a0_0 a0_1 a0_2))) else (none)) else (none)) else (privitylaw12_ParamsVanishingPolynomialRoots.j0 k l1 t361 true a0_0 a0_1 a0_2)) else (privitylaw12_ParamsVanishingPolynomialRoots.j0 k l1 t361 true a0_0 a0_1 a0_2))))) else (some true))) else (some false)) = some r := H
 have A3 := Aside0.mk A30
 clear A30
 by_cases c4 : t359 = true
 ·subst c4
  have H1 : ((privityref12_ValidCoalition.f k a0_0 a0_1 a0_2 l1).bind fun t360 => (if t360 = true then ((params_VanishingPolynomial.f k a0_0 a0_1 a0_2 l1).bind fun t361 => ((privityref12_VanishingPolynomial.f k a0_0 a0_1 a0_2 l1).bind fun t364 => ((privityref05_Same.f k t361 t364).bind fun t367 => (if t367 = true then (if (t361.length : Int) = (wrap64 (a0_2 + 1)) then (if 0 ≤ a0_2 then (if a0_2 < (t361.length : Int) then (if (rd t361 a0_2) = 0 then (privitylaw12_ParamsVanishingPolynomialRoots.j0 k l1 t361 true a0_0 a0_1 a0_2) else ((poly_Eval.f k a0_0 t361 0).bind fun t369 => (privitylaw12_ParamsVanishingPolynomialRoots.j0 k l1 t361 (t369 != 1) a0_0 a0_1 a0_2))) else (none)) else (none)) else (privitylaw12_ParamsVanishingPolynomialRoots.j0 k l1 t361 true a0_0 a0_1 a0_2)) else (privitylaw12_ParamsVanishingPolynomialRoots.j0 k l1 t361 true a0_0 a0_1 a0_2))))) else (some true))) = some r := by rw [if_pos rfl] at H;exact H
  clear H
  have H := H1
  clear H1
  replace H := Option.bind_eq_some_iff.mp H
  obtain ⟨t360,A50,H⟩ := H
  replace H : (if t360 = true then ((params_VanishingPolynomial.f k a0_0 a0_1 a0_2 l1).bind fun t361 => ((privityref12_VanishingPolynomial.f k a0_0 a0_1 a0_2 l1).bind fun t364 => ((privityref05_Same.f k t361 t364).bind fun t367 => (if t367 = true then (if (t361.length : Int) = (wrap64 (a0_2 + 1)) then (if 0 ≤ a0_2 then (if a0_2 < (t361.length : Int) then (if (rd t361 a0_2) = 0 then (privitylaw12_ParamsVanishingPolynomialRoots.j0 k l1 t361 true a0_0 a0_1 a0_2) else ((poly_Eval.f k a0_0 t361 0).bind fun t369 => (privitylaw12_ParamsVanishingPolynomialRoots.j0 k l1 t361 (t369 != 1) a0_0 a0_1 a0_2))) else (none)) else (none)) else (privitylaw12_ParamsVanishingPolynomialRoots.j0 k l1 t361 true a0_0 a0_1 a0_2)) else (privitylaw12_ParamsVanishingPolynomialRoots.j0 k l1 t361 true a0_0 a0_1 a0_2))))) else (some true)) = some r := H
  have A5 := Aside0.mk A50
  clear A50
  by_cases c6 : t360 = true
  ·subst c6
   have H1 : ((params_VanishingPolynomial.f k a0_0 a0_1 a0_2 l1).bind fun t361 => ((privityref12_VanishingPolynomial.f k a0_0 a0_1 a0_2 l1).bind fun t364 => ((privityref05_Same.f k t361 t364).bind fun t367 => (if t367 = true then (if (t361.length : Int) = (wrap64 (a0_2 + 1)) then (if 0 ≤ a0_2 then (if a0_2 < (t361.length : Int) then (if (rd t361 a0_2) = 0 then (privitylaw12_ParamsVanishingPolynomialRoots.j0 k l1 t361 true a0_0 a0_1 a0_2) else ((poly_Eval.f k a0_0 t361 0).bind fun t369 => (privitylaw12_ParamsVanishingPolynomialRoots.j0 k l1 t361 (t369 != 1) a0_0 a0_1 a0_2))) else (none)) else (none)) else (privitylaw12_ParamsVanishingPolynomialRoots.j0 k l1 t361 true a0_0 a0_1 a0_2)) else (privitylaw12_ParamsVanishingPolynomialRoots.j0 k l1 t361 true a0_0 a0_1 a0_2))))) = some r := by rw [if_pos rfl] at H;exact H
   clear H
   have H := H1
   clear H1
   replace H := Option.bind_eq_some_iff.mp H
   obtain ⟨t361,A70,H⟩ := H
   replace H : ((privityref12_VanishingPolynomial.f k a0_0 a0_1 a0_2 l1).bind fun t364 => ((privityref05_Same.f k t361 t364).bind fun t367 => (if t367 = true then (if (t361.length : Int) = (wrap64 (a0_2 + 1)) then (if 0 ≤ a0_2 then (if a0_2 < (t361.length : Int) then (if (rd t361 a0_2) = 0 then (privitylaw12_ParamsVanishingPolynomialRoots.j0 k l1 t361 true a0_0 a0_1 a0_2) else ((poly_Eval.f k a0_0 t361 0).bind fun t369 => (privitylaw12_ParamsVanishingPolynomialRoots.j0 k l1 t361 (t369 != 1) a0_0 a0_1 a0_2))) else (none)) else (none)) else (privitylaw12_ParamsVanishingPolynomialRoots.j0 k l1 t361 true a0_0 a0_1 a0_2)) else (privitylaw12_ParamsVanishingPolynomialRoots.j0 k l1 t361 true a0_0 a0_1 a0_2)))) = some r := H
   have A7 := Aside0.mk A70
   clear A70
   have HC8 := Aside0.mk H
   clear H
   go_enter Tryd.func8,Tryd.ntmps8
   go_upto_region 6 with (first|((with_reducible refine gate_dst (N := 2) rfl ?_);(try (refine gate_guard (by rfl) ?_;dsimp only));refine box_event ?hg (N := 2) ?hd (cs := #[.int .u64 a0_0,.int .i64 a0_1,.int .i64 a0_2]) (t := 24) ?hr ?_;(case hd => rfl);(case hg => rfl);(case hr => first|(go_simp;done)|(go_simp;rfl));intro gb358 hg w9 hbox hb;have n0_ := Aside0.mk (below_step (by repeat (first|(with_reducible first|exact HB.out|apply below_alloc|apply pw_below_drewN|apply below_drew1)|exact HB.out)) hb);have n1_ := Aside0.mk (hbox);have n2_ := Aside0.mk ((by rw [hg];exact (below_size (by repeat (first|(with_reducible first|exact HB.out|apply below_alloc|apply pw_below_drewN|apply below_drew1)|exact HB.out))) : w.heap.size ≤ gb358));have n3_ := Aside0.mk ((by rw [hg];exact (below_size (by repeat (first|(with_reducible first|exact HB.out|apply below_alloc|apply pw_below_drewN|apply below_drew1)|exact HB.out))) : w.heap.size ≤ gb358));clear HB;have HB := n0_;have BK358 := n1_;have GW358 := n2_;have GE358 := n3_;clear n0_ n1_ n2_ n3_;clear hb hbox hg)|((with_reducible refine gate_callee (f := 9) rfl ?_);refine goesL_ (some 8) rfl rfl Tryd.func9 (by kernel_rfl) rfl #[] rfl (by (try simp only [List.map_toArray,List.map_cons,List.map_nil]);first|done|rfl|(simp only [List.length_drop,List.length_take];rfl)) ?_;(with_reducible refine (privitylaw12_awake.calls  true _ ?sidehx A3.out).mono ?_);(case sidehx => repeat (first|exact HX_.out|exact (Hx_below HX_.out HB.out)|(with_reducible refine Hx_alloc ?_ _)|(with_reducible refine Hx_drewN ?_ _)|(with_reducible refine Hx_drew ?_)));rintro e w10 ⟨rfl,hb⟩;refine ⟨_,rfl,?_⟩;have n0_ := Aside0.mk (blk_below (g := gb358) (o := .cells #[.int .u64 a0_0,.int .i64 a0_1,.int .i64 a0_2] 24 (0,0)) (by (with_reducible repeat (first|refine blk_drewN ?_ _|refine blk_drew ?_|refine blk_alloc ?_ _));exact BK358.out) hb);have n1_ := Aside0.mk (below_step (by repeat (first|(with_reducible first|exact HB.out|apply below_alloc|apply pw_below_drewN|apply below_drew1|refine below_set ?_ GE358.out)|exact HB.out)) hb);clear BK358;clear HB;have BK358 := n0_;have HB := n1_;clear n0_ n1_;(try clear hb);(try clear hb2);(try clear hk);(try clear hi);have hcz11_0 : w10.cell? ⟨gb358,0,none⟩ = some (.int .u64 a0_0) := (blk_cell BK358.out 0).trans rfl;have hcz11_1 : w10.cell? ⟨gb358,1,none⟩ = some (.int .i64 a0_1) := (blk_cell BK358.out 1).trans rfl;have hcz11_2 : w10.cell? ⟨gb358,2,none⟩ = some (.int .i64 a0_2) := (blk_cell BK358.out 2).trans rfl;have hfz11_0 := blk_frozen BK358.out 0;have hfz11_1 := blk_frozen BK358.out 1;have hfz11_2 := blk_frozen BK358.out 2)|((with_reducible refine gate_callee (f := 13) rfl ?_);refine goesL_ (some 12) rfl rfl Tryd.func13 (by kernel_rfl) rfl #[.agg #[.int .u64 a0_0,.int .i64 a0_1,.int .i64 a0_2],.slice A1 l1.length c1] rfl (by (try simp only [List.map_toArray,List.map_cons,List.map_nil]);first|done|rfl|(simp only [List.length_drop,List.length_take];rfl)) ?_;(with_reducible refine (privityref12_ValidCoalition.calls k a0_0 a0_1 a0_2 _ _ l1 true _ ?side1 ?side2 A5.out).mono ?_);(case side1 => repeat (first|exact (Kd.C_below HR1.out HB.out)|(with_reducible refine Kd.C_alloc ?_ _)|(with_reducible refine Kd.C_drewN ?_ _)|(with_reducible refine Kd.C_drew ?_)));(case side2 => exact HC1.out);rintro e w12 ⟨rfl,hb⟩;refine ⟨_,rfl,?_⟩;have n0_ := Aside0.mk (blk_below (g := gb358) (o := .cells #[.int .u64 a0_0,.int .i64 a0_1,.int .i64 a0_2] 24 (0,0)) (by (with_reducible repeat (first|refine blk_drewN ?_ _|refine blk_drew ?_|refine blk_alloc ?_ _));exact BK358.out) hb);have n1_ := Aside0.mk (below_step (by repeat (first|(with_reducible first|exact HB.out|apply below_alloc|apply pw_below_drewN|apply below_drew1|refine below_set ?_ GE358.out)|exact HB.out)) hb);clear BK358;clear HB;have BK358 := n0_;have HB := n1_;clear n0_ n1_;(try clear hb);(try clear hb2);(try clear hk);(try clear hi);have hcz13_0 : w12.cell? ⟨gb358,0,none⟩ = some (.int .u64 a0_0) := (blk_cell BK358.out 0).trans rfl;have hcz13_1 : w12.cell? ⟨gb358,1,none⟩ = some (.int .i64 a0_1) := (blk_cell BK358.out 1).trans rfl;have hcz13_2 : w12.cell? ⟨gb358,2,none⟩ = some (.int .i64 a0_2) := (blk_cell BK358.out 2).trans rfl;have hfz13_0 := blk_frozen BK358.out 0;have hfz13_1 := blk_frozen BK358.out 1;have hfz13_2 := blk_frozen BK358.out 2)|((with_reducible refine gate_callee (f := 23) rfl ?_);refine goesL_ (some 16) rfl rfl Tryd.func23 (by kernel_rfl) rfl #[.agg #[.int .u64 a0_0,.int .i64 a0_1,.int .i64 a0_2],.slice A1 l1.length c1] rfl (by (try simp only [List.map_toArray,List.map_cons,List.map_nil]);first|done|rfl|(simp only [List.length_drop,List.length_take];rfl)) ?_;(with_reducible refine (params_VanishingPolynomial.calls k a0_0 a0_1 a0_2 _ _ l1 t361 _ ?side1 ?side2 A7.out).mono ?_);(case side1 => repeat (first|exact (Kd.C_below HR1.out HB.out)|(with_reducible refine Kd.C_alloc ?_ _)|(with_reducible refine Kd.C_drewN ?_ _)|(with_reducible refine Kd.C_drew ?_)));(case side2 => exact HC1.out);rintro e w14 ⟨v362,rfl,ho0,hb⟩;refine ⟨_,rfl,?_⟩;have n0_ := Aside0.mk (Kd.R_lower ho0 (below_size (by repeat (first|(with_reducible first|exact HB.out|apply below_alloc|apply pw_below_drewN|apply below_drew1|refine below_set ?_ GE358.out)|exact HB.out))));have n1_ := Aside0.mk (blk_below (g := gb358) (o := .cells #[.int .u64 a0_0,.int .i64 a0_1,.int .i64 a0_2] 24 (0,0)) (by (with_reducible repeat (first|refine blk_drewN ?_ _|refine blk_drew ?_|refine blk_alloc ?_ _));exact BK358.out) hb);have n2_ := Aside0.mk (below_step (by repeat (first|(with_reducible first|exact HB.out|apply below_alloc|apply pw_below_drewN|apply below_drew1|refine below_set ?_ GE358.out)|exact HB.out)) hb);clear BK358;clear HB;have HO363 := n0_;have BK358 := n1_;have HB := n2_;clear n0_ n1_ n2_;(try clear hb);(try clear hb2);(try clear hk);(try clear hi);(try clear ho0)))
   (try simp only [Act.put,List.setIfInBounds_toArray,List.set_cons_zero,List.set_cons_succ])
   go_cut [45] (fun v45 wc => ∃ (kq : Nat) (x45_7 : Bool),v45 = .bool x45_7 ∧ Aside0 (privitylaw12_ParamsVanishingPolynomialRoots.j0 kq l1 t361 x45_7 a0_0 a0_1 a0_2 = some r) ∧ Aside0 (kq ≤ k) ∧ Aside0 (Kd.R (Kd.int .u64) 22 wc w.heap.size (fun _ => True) v362 t361) ∧ Aside0 (wc.heap[gb358]? = some (.cells #[.int .u64 a0_0,.int .i64 a0_1,.int .i64 a0_2] 24 (0,0))) ∧ Aside0 (Below w.heap.size w wc))
   case first =>
    have H := HC8.out
    clear HC8
    replace H := Option.bind_eq_some_iff.mp H
    obtain ⟨t364,A150,H⟩ := H
    replace H : ((privityref05_Same.f k t361 t364).bind fun t367 => (if t367 = true then (if (t361.length : Int) = (wrap64 (a0_2 + 1)) then (if 0 ≤ a0_2 then (if a0_2 < (t361.length : Int) then (if (rd t361 a0_2) = 0 then (privitylaw12_ParamsVanishingPolynomialRoots.j0 k l1 t361 true a0_0 a0_1 a0_2) else ((poly_Eval.f k a0_0 t361 0).bind fun t369 => (privitylaw12_ParamsVanishingPolynomialRoots.j0 k l1 t361 (t369 != 1) a0_0 a0_1 a0_2))) else (none)) else (none)) else (privitylaw12_ParamsVanishingPolynomialRoots.j0 k l1 t361 true a0_0 a0_1 a0_2)) else (privitylaw12_ParamsVanishingPolynomialRoots.j0 k l1 t361 true a0_0 a0_1 a0_2))) = some r := H
    have A15 := Aside0.mk A150
    clear A150
    replace H := Option.bind_eq_some_iff.mp H
    obtain ⟨t367,A160,H⟩ := H
    replace H : (if t367 = true then (if (t361.length : Int) = (wrap64 (a0_2 + 1)) then (if 0 ≤ a0_2 then (if a0_2 < (t361.length : Int) then (if (rd t361 a0_2) = 0 then (privitylaw12_ParamsVanishingPolynomialRoots.j0 k l1 t361 true a0_0 a0_1 a0_2) else ((poly_Eval.f k a0_0 t361 0).bind fun t369 => (privitylaw12_ParamsVanishingPolynomialRoots.j0 k l1 t361 (t369 != 1) a0_0 a0_1 a0_2))) else (none)) else (none)) else (privitylaw12_ParamsVanishingPolynomialRoots.j0 k l1 t361 true a0_0 a0_1 a0_2)) else (privitylaw12_ParamsVanishingPolynomialRoots.j0 k l1 t361 true a0_0 a0_1 a0_2)) = some r := H
    have A16 := Aside0.mk A160
    clear A160
    by_cases c17 : t367 = true
    ·subst c17
     have H1 : (if (t361.length : Int) = (wrap64 (a0_2 + 1)) then (if 0 ≤ a0_2 then (if a0_2 < (t361.length : Int) then (if (rd t361 a0_2) = 0 then (privitylaw12_ParamsVanishingPolynomialRoots.j0 k l1 t361 true a0_0 a0_1 a0_2) else ((poly_Eval.f k a0_0 t361 0).bind fun t369 => (privitylaw12_ParamsVanishingPolynomialRoots.j0 k l1 t361 (t369 != 1) a0_0 a0_1 a0_2))) else (none)) else (none)) else (privitylaw12_ParamsVanishingPolynomialRoots.j0 k l1 t361 true a0_0 a0_1 a0_2)) = some r := by rw [if_pos rfl] at H;exact H
     clear H
     have H := H1
     clear H1
     by_cases c18 : (t361.length : Int) = (wrap64 (a0_2 + 1))
     ·rw [if_pos c18] at H
      have c18b0 : ((t361.length : Int) == (wrap64 (a0_2 + 1))) = true := beq_iff_eq.mpr c18
      have c18b1 : ((t361.length : Int) != (wrap64 (a0_2 + 1))) = false := bne_eq_false_iff_eq.mpr c18
      clear c18
      (first|rw [c18b0]|(simp only [i64_w,i32_w];rw [c18b0])|skip)
      by_cases c19 : 0 ≤ a0_2
      ·rw [if_pos c19] at H
       have c19b0 : decide (0 ≤ a0_2) = true := decide_eq_true c19
       clear c19
       by_cases c20 : a0_2 < (t361.length : Int)
       ·rw [if_pos c20] at H
        have c20b0 : decide (a0_2 < (t361.length : Int)) = true := decide_eq_true c20
        clear c20
        by_cases c21 : (rd t361 a0_2) = 0
        ·rw [if_pos c21] at H
         have c21b0 : ((rd t361 a0_2) == 0) = true := beq_iff_eq.mpr c21
         have c21b1 : ((rd t361 a0_2) != 0) = false := bne_eq_false_iff_eq.mpr c21
         clear c21
         have H' := Aside0.mk H
         clear H
         have hcz22_0 : w14.cell? ⟨gb358,0,none⟩ = some (.int .u64 a0_0) := (blk_cell BK358.out 0).trans rfl
         have hcz22_1 : w14.cell? ⟨gb358,1,none⟩ = some (.int .i64 a0_1) := (blk_cell BK358.out 1).trans rfl
         have hcz22_2 : w14.cell? ⟨gb358,2,none⟩ = some (.int .i64 a0_2) := (blk_cell BK358.out 2).trans rfl
         have hfz22_0 := blk_frozen BK358.out 0
         have hfz22_1 := blk_frozen BK358.out 1
         have hfz22_2 := blk_frozen BK358.out 2
         go_wp2_with (first|((with_reducible refine gate_callee (f := 26) rfl ?_);refine goesL_ (some 20) rfl rfl Tryd.func26 (by kernel_rfl) rfl #[.agg #[.int .u64 a0_0,.int .i64 a0_1,.int .i64 a0_2],.slice A1 l1.length c1] rfl (by (try simp only [List.map_toArray,List.map_cons,List.map_nil]);first|done|rfl|(simp only [List.length_drop,List.length_take];rfl)) ?_;(with_reducible refine (privityref12_VanishingPolynomial.calls k a0_0 a0_1 a0_2 _ _ l1 t364 _ ?side1 ?side2 A15.out).mono ?_);(case side1 => repeat (first|exact (Kd.C_below HR1.out HB.out)|(with_reducible refine Kd.C_alloc ?_ _)|(with_reducible refine Kd.C_drewN ?_ _)|(with_reducible refine Kd.C_drew ?_)));(case side2 => exact HC1.out);rintro e w23 ⟨v365,rfl,ho0,hb⟩;refine ⟨_,rfl,?_⟩;have n0_ := Aside0.mk (Kd.R_elder' (by (with_reducible repeat (first|apply Kd.R_alloc|apply Kd.R_drewN|apply Kd.R_drew));exact HO363.out) (Kd.R_base ho0) hb);have n1_ := Aside0.mk (Kd.R_lower (Kd.R_new' ho0 (Kd.R_lt (by (with_reducible repeat (first|apply Kd.R_alloc|apply Kd.R_drewN|apply Kd.R_drew));exact HO363.out))) (below_size (by repeat (first|(with_reducible first|exact HB.out|apply below_alloc|apply pw_below_drewN|apply below_drew1|refine below_set ?_ GE358.out)|exact HB.out))));have n2_ := Aside0.mk (blk_below (g := gb358) (o := .cells #[.int .u64 a0_0,.int .i64 a0_1,.int .i64 a0_2] 24 (0,0)) (by (with_reducible repeat (first|refine blk_drewN ?_ _|refine blk_drew ?_|refine blk_alloc ?_ _));exact BK358.out) hb);have n3_ := Aside0.mk (below_step (by repeat (first|(with_reducible first|exact HB.out|apply below_alloc|apply pw_below_drewN|apply below_drew1|refine below_set ?_ GE358.out)|exact HB.out)) hb);clear HO363;clear BK358;clear HB;have HO363 := n0_;have HO366 := n1_;have BK358 := n2_;have HB := n3_;clear n0_ n1_ n2_ n3_;(try clear hb);(try clear hb2);(try clear hk);(try clear hi);(try clear ho0);obtain ⟨Ao24,co24,eo24⟩ := Kd.R_slice HO363.out;subst eo24;obtain ⟨Ao25,co25,eo25⟩ := Kd.R_slice HO366.out;subst eo25)|((with_reducible refine gate_callee (f := 22) rfl ?_);refine goesL_ (some 21) rfl rfl Tryd.func22 (by kernel_rfl) rfl #[.slice Ao24 t361.length co24,.slice Ao25 t364.length co25] rfl (by (try simp only [List.map_toArray,List.map_cons,List.map_nil]);first|done|rfl|(simp only [List.length_drop,List.length_take];rfl)) ?_;(with_reducible refine (privityref05_Same.calls k _ _ t361 _ _ t364 true _ ?side1 ?side2 ?side3 ?side4 A16.out).mono ?_);(case side1 => repeat (first|exact (Kd.R_reads' HO363.out).2.2|(with_reducible refine Kd.C_alloc ?_ _)|(with_reducible refine Kd.C_drewN ?_ _)|(with_reducible refine Kd.C_drew ?_)));(case side2 => exact (Kd.R_reads' HO363.out).2.1);(case side3 => repeat (first|exact (Kd.R_reads' HO366.out).2.2|(with_reducible refine Kd.C_alloc ?_ _)|(with_reducible refine Kd.C_drewN ?_ _)|(with_reducible refine Kd.C_drew ?_)));(case side4 => exact (Kd.R_reads' HO366.out).2.1);rintro e w' ⟨rfl,⟨nd,rfl⟩⟩;refine ⟨_,rfl,?_⟩;have hcz26_0 : w23.cell? ⟨gb358,0,none⟩ = some (.int .u64 a0_0) := (blk_cell BK358.out 0).trans rfl;have hcz26_1 : w23.cell? ⟨gb358,1,none⟩ = some (.int .i64 a0_1) := (blk_cell BK358.out 1).trans rfl;have hcz26_2 : w23.cell? ⟨gb358,2,none⟩ = some (.int .i64 a0_2) := (blk_cell BK358.out 2).trans rfl;have hfz26_0 := blk_frozen BK358.out 0;have hfz26_1 := blk_frozen BK358.out 1;have hfz26_2 := blk_frozen BK358.out 2;have p368 : 0 ≤ (a0_2 : Int) := of_decide_eq_true (by first|(with_reducible assumption)|assumption);have q368 : a0_2 < (t361.length : Int) := of_decide_eq_true (by first|(with_reducible assumption)|assumption);obtain ⟨ad368,e368,hx368_0⟩ := Kd.at_int (Kd.R_reads' HO363.out).2.2 a0_2 p368 q368;cases e368;replace p368 := eq_true p368;replace q368 := eq_true q368))
         go_meet
         case rel => exact ⟨_,(true),(by first|rfl|(simp;done)|(simp [*];done)),H',⟨by first|omega|exact Nat.le_refl _⟩,⟨by (with_reducible repeat (first|apply Kd.R_alloc|apply Kd.R_drewN|apply Kd.R_drew));exact Kd.R_mono HO363.out (fun _ hk => trivial)⟩,⟨by (with_reducible repeat (first|refine blk_drewN ?_ _|refine blk_drew ?_|refine blk_alloc ?_ _));exact BK358.out⟩,⟨by repeat (first|(with_reducible first|exact HB.out|apply below_alloc|apply pw_below_drewN|apply below_drew1|refine below_set ?_ GE358.out)|exact HB.out)⟩⟩
        ·rw [if_neg c21] at H
         have c21b0 : ((rd t361 a0_2) == 0) = false := beq_eq_false_iff_ne.mpr c21
         have c21b1 : ((rd t361 a0_2) != 0) = true := bne_iff_ne.mpr c21
         replace H := Option.bind_eq_some_iff.mp H
         obtain ⟨t369,A270,H⟩ := H
         replace H : (privitylaw12_ParamsVanishingPolynomialRoots.j0 k l1 t361 (t369 != 1) a0_0 a0_1 a0_2) = some r := H
         have A27 := Aside0.mk A270
         clear A270
         have H' := Aside0.mk H
         clear H
         have hcz28_0 : w14.cell? ⟨gb358,0,none⟩ = some (.int .u64 a0_0) := (blk_cell BK358.out 0).trans rfl
         have hcz28_1 : w14.cell? ⟨gb358,1,none⟩ = some (.int .i64 a0_1) := (blk_cell BK358.out 1).trans rfl
         have hcz28_2 : w14.cell? ⟨gb358,2,none⟩ = some (.int .i64 a0_2) := (blk_cell BK358.out 2).trans rfl
         have hfz28_0 := blk_frozen BK358.out 0
         have hfz28_1 := blk_frozen BK358.out 1
         have hfz28_2 := blk_frozen BK358.out 2
         go_wp2_with (first|((with_reducible refine gate_callee (f := 26) rfl ?_);refine goesL_ (some 20) rfl rfl Tryd.func26 (by kernel_rfl) rfl #[.agg #[.int .u64 a0_0,.int .i64 a0_1,.int .i64 a0_2],.slice A1 l1.length c1] rfl (by (try simp only [List.map_toArray,List.map_cons,List.map_nil]);first|done|rfl|(simp only [List.length_drop,List.length_take];rfl)) ?_;(with_reducible refine (privityref12_VanishingPolynomial.calls k a0_0 a0_1 a0_2 _ _ l1 t364 _ ?side1 ?side2 A15.out).mono ?_);(case side1 => repeat (first|exact (Kd.C_below HR1.out HB.out)|(with_reducible refine Kd.C_alloc ?_ _)|(with_reducible refine Kd.C_drewN ?_ _)|(with_reducible refine Kd.C_drew ?_)));(case side2 => exact HC1.out);rintro e w29 ⟨v365,rfl,ho0,hb⟩;refine ⟨_,rfl,?_⟩;have n0_ := Aside0.mk (Kd.R_elder' (by (with_reducible repeat (first|apply Kd.R_alloc|apply Kd.R_drewN|apply Kd.R_drew));exact HO363.out) (Kd.R_base ho0) hb);have n1_ := Aside0.mk (Kd.R_lower (Kd.R_new' ho0 (Kd.R_lt (by (with_reducible repeat (first|apply Kd.R_alloc|apply Kd.R_drewN|apply Kd.R_drew));exact HO363.out))) (below_size (by repeat (first|(with_reducible first|exact HB.out|apply below_alloc|apply pw_below_drewN|apply below_drew1|refine below_set ?_ GE358.out)|exact HB.out))));have n2_ := Aside0.mk (blk_below (g := gb358) (o := .cells #[.int .u64 a0_0,.int .i64 a0_1,.int .i64 a0_2] 24 (0,0)) (by (with_reducible repeat (first|refine blk_drewN ?_ _|refine blk_drew ?_|refine blk_alloc ?_ _));exact BK358.out) hb);have n3_ := Aside0.mk (below_step (by repeat (first|(with_reducible first|exact HB.out|apply below_alloc|apply pw_below_drewN|apply below_drew1|refine below_set ?_ GE358.out)|exact HB.out)) hb);clear HO363;clear BK358;clear HB;have HO363 := n0_;have HO366 := n1_;have BK358 := n2_;have HB := n3_;clear n0_ n1_ n2_ n3_;(try clear hb);(try clear hb2);(try clear hk);(try clear hi);(try clear ho0);obtain ⟨Ao30,co30,eo30⟩ := Kd.R_slice HO363.out;subst eo30;obtain ⟨Ao31,co31,eo31⟩ := Kd.R_slice HO366.out;subst eo31)|((with_reducible refine gate_callee (f := 22) rfl ?_);refine goesL_ (some 21) rfl rfl Tryd.func22 (by kernel_rfl) rfl #[.slice Ao30 t361.length co30,.slice Ao31 t364.length co31] rfl (by (try simp only [List.map_toArray,List.map_cons,List.map_nil]);first|done|rfl|(simp only [List.length_drop,List.length_take];rfl)) ?_;(with_reducible refine (privityref05_Same.calls k _ _ t361 _ _ t364 true _ ?side1 ?side2 ?side3 ?side4 A16.out).mono ?_);(case side1 => repeat (first|exact (Kd.R_reads' HO363.out).2.2|(with_reducible refine Kd.C_alloc ?_ _)|(with_reducible refine Kd.C_drewN ?_ _)|(with_reducible refine Kd.C_drew ?_)));(case side2 => exact (Kd.R_reads' HO363.out).2.1);(case side3 => repeat (first|exact (Kd.R_reads' HO366.out).2.2|(with_reducible refine Kd.C_alloc ?_ _)|(with_reducible refine Kd.C_drewN ?_ _)|(with_reducible refine Kd.C_drew ?_)));(case side4 => exact (Kd.R_reads' HO366.out).2.1);rintro e w' ⟨rfl,⟨nd,rfl⟩⟩;refine ⟨_,rfl,?_⟩;have hcz32_0 : w29.cell? ⟨gb358,0,none⟩ = some (.int .u64 a0_0) := (blk_cell BK358.out 0).trans rfl;have hcz32_1 : w29.cell? ⟨gb358,1,none⟩ = some (.int .i64 a0_1) := (blk_cell BK358.out 1).trans rfl;have hcz32_2 : w29.cell? ⟨gb358,2,none⟩ = some (.int .i64 a0_2) := (blk_cell BK358.out 2).trans rfl;have hfz32_0 := blk_frozen BK358.out 0;have hfz32_1 := blk_frozen BK358.out 1;have hfz32_2 := blk_frozen BK358.out 2;have p368 : 0 ≤ (a0_2 : Int) := of_decide_eq_true (by first|(with_reducible assumption)|assumption);have q368 : a0_2 < (t361.length : Int) := of_decide_eq_true (by first|(with_reducible assumption)|assumption);obtain ⟨ad368,e368,hx368_0⟩ := Kd.at_int (Kd.R_reads' HO363.out).2.2 a0_2 p368 q368;cases e368;replace p368 := eq_true p368;replace q368 := eq_true q368)|(go_at_call 27;(with_reducible refine (poly_Eval.calls k a0_0 _ _ t361 0 t369 _ ?side1 ?side2 A27.out).mono ?_);(case side1 => repeat (first|exact (Kd.R_reads' HO363.out).2.2|(with_reducible refine Kd.C_alloc ?_ _)|(with_reducible refine Kd.C_drewN ?_ _)|(with_reducible refine Kd.C_drew ?_)));(case side2 => exact (Kd.R_reads' HO363.out).2.1);rintro e w' ⟨rfl,⟨nd,rfl⟩⟩))
         go_meet
         case rel => exact ⟨_,((t369 != 1)),(by first|rfl|(simp;done)|(simp [*];done)),H',⟨by first|omega|exact Nat.le_refl _⟩,⟨by (with_reducible repeat (first|apply Kd.R_alloc|apply Kd.R_drewN|apply Kd.R_drew));exact Kd.R_mono HO363.out (fun _ hk => trivial)⟩,⟨by (with_reducible repeat (first|refine blk_drewN ?_ _|refine blk_drew ?_|refine blk_alloc ?_ _));exact BK358.out⟩,⟨by repeat (first|(with_reducible first|exact HB.out|apply below_alloc|apply pw_below_drewN|apply below_drew1|refine below_set ?_ GE358.out)|exact HB.out)⟩⟩
       ·rw [if_neg c20] at H
        exact absurd H (by simp)
      ·rw [if_neg c19] at H
       exact absurd H (by simp)
     ·rw [if_neg c18] at H
      have c18b0 : ((t361.length : Int) == (wrap64 (a0_2 + 1))) = false := beq_eq_false_iff_ne.mpr c18
      have c18b1 : ((t361.length : Int) != (wrap64 (a0_2 + 1))) = true := bne_iff_ne.mpr c18
      (first|rw [c18b0]|(simp only [i64_w,i32_w];rw [c18b0])|skip)
      have H' := Aside0.mk H
      clear H
      have hcz33_0 : w14.cell? ⟨gb358,0,none⟩ = some (.int .u64 a0_0) := (blk_cell BK358.out 0).trans rfl
      have hcz33_1 : w14.cell? ⟨gb358,1,none⟩ = some (.int .i64 a0_1) := (blk_cell BK358.out 1).trans rfl
      have hcz33_2 : w14.cell? ⟨gb358,2,none⟩ = some (.int .i64 a0_2) := (blk_cell BK358.out 2).trans rfl
      have hfz33_0 := blk_frozen BK358.out 0
      have hfz33_1 := blk_frozen BK358.out 1
      have hfz33_2 := blk_frozen BK358.out 2
      go_wp2_with (first|((with_reducible refine gate_callee (f := 26) rfl ?_);refine goesL_ (some 20) rfl rfl Tryd.func26 (by kernel_rfl) rfl #[.agg #[.int .u64 a0_0,.int .i64 a0_1,.int .i64 a0_2],.slice A1 l1.length c1] rfl (by (try simp only [List.map_toArray,List.map_cons,List.map_nil]);first|done|rfl|(simp only [List.length_drop,List.length_take];rfl)) ?_;(with_reducible refine (privityref12_VanishingPolynomial.calls k a0_0 a0_1 a0_2 _ _ l1 t364 _ ?side1 ?side2 A15.out).mono ?_);(case side1 => repeat (first|exact (Kd.C_below HR1.out HB.out)|(with_reducible refine Kd.C_alloc ?_ _)|(with_reducible refine Kd.C_drewN ?_ _)|(with_reducible refine Kd.C_drew ?_)));(case side2 => exact HC1.out);rintro e w34 ⟨v365,rfl,ho0,hb⟩;refine ⟨_,rfl,?_⟩;have n0_ := Aside0.mk (Kd.R_elder' (by (with_reducible repeat (first|apply Kd.R_alloc|apply Kd.R_drewN|apply Kd.R_drew));exact HO363.out) (Kd.R_base ho0) hb);have n1_ := Aside0.mk (Kd.R_lower (Kd.R_new' ho0 (Kd.R_lt (by (with_reducible repeat (first|apply Kd.R_alloc|apply Kd.R_drewN|apply Kd.R_drew));exact HO363.out))) (below_size (by repeat (first|(with_reducible first|exact HB.out|apply below_alloc|apply pw_below_drewN|apply below_drew1|refine below_set ?_ GE358.out)|exact HB.out))));have n2_ := Aside0.mk (blk_below (g := gb358) (o := .cells #[.int .u64 a0_0,.int .i64 a0_1,.int .i64 a0_2] 24 (0,0)) (by (with_reducible repeat (first|refine blk_drewN ?_ _|refine blk_drew ?_|refine blk_alloc ?_ _));exact BK358.out) hb);have n3_ := Aside0.mk (below_step (by repeat (first|(with_reducible first|exact HB.out|apply below_alloc|apply pw_below_drewN|apply below_drew1|refine below_set ?_ GE358.out)|exact HB.out)) hb);clear HO363;clear BK358;clear HB;have HO363 := n0_;have HO366 := n1_;have BK358 := n2_;have HB := n3_;clear n0_ n1_ n2_ n3_;(try clear hb);(try clear hb2);(try clear hk);(try clear hi);(try clear ho0);obtain ⟨Ao35,co35,eo35⟩ := Kd.R_slice HO363.out;subst eo35;obtain ⟨Ao36,co36,eo36⟩ := Kd.R_slice HO366.out;subst eo36)|((with_reducible refine gate_callee (f := 22) rfl ?_);refine goesL_ (some 21) rfl rfl Tryd.func22 (by kernel_rfl) rfl #[.slice Ao35 t361.length co35,.slice Ao36 t364.length co36] rfl (by (try simp only [List.map_toArray,List.map_cons,List.map_nil]);first|done|rfl|(simp only [List.length_drop,List.length_take];rfl)) ?_;(with_reducible refine (privityref05_Same.calls k _ _ t361 _ _ t364 true _ ?side1 ?side2 ?side3 ?side4 A16.out).mono ?_);(case side1 => repeat (first|exact (Kd.R_reads' HO363.out).2.2|(with_reducible refine Kd.C_alloc ?_ _)|(with_reducible refine Kd.C_drewN ?_ _)|(with_reducible refine Kd.C_drew ?_)));(case side2 => exact (Kd.R_reads' HO363.out).2.1);(case side3 => repeat (first|exact (Kd.R_reads' HO366.out).2.2|(with_reducible refine Kd.C_alloc ?_ _)|(with_reducible refine Kd.C_drewN ?_ _)|(with_reducible refine Kd.C_drew ?_)));(case side4 => exact (Kd.R_reads' HO366.out).2.1);rintro e w' ⟨rfl,⟨nd,rfl⟩⟩;refine ⟨_,rfl,?_⟩;have hcz37_0 : w34.cell? ⟨gb358,0,none⟩ = some (.int .u64 a0_0) := (blk_cell BK358.out 0).trans rfl;have hcz37_1 : w34.cell? ⟨gb358,1,none⟩ = some (.int .i64 a0_1) := (blk_cell BK358.out 1).trans rfl;have hcz37_2 : w34.cell? ⟨gb358,2,none⟩ = some (.int .i64 a0_2) := (blk_cell BK358.out 2).trans rfl;have hfz37_0 := blk_frozen BK358.out 0;have hfz37_1 := blk_frozen BK358.out 1;have hfz37_2 := blk_frozen BK358.out 2))
      go_meet
      case rel => exact ⟨_,(true),(by first|rfl|(simp;done)|(simp [*];done)),H',⟨by first|omega|exact Nat.le_refl _⟩,⟨by (with_reducible repeat (first|apply Kd.R_alloc|apply Kd.R_drewN|apply Kd.R_drew));exact Kd.R_mono HO363.out (fun _ hk => trivial)⟩,⟨by (with_reducible repeat (first|refine blk_drewN ?_ _|refine blk_drew ?_|refine blk_alloc ?_ _));exact BK358.out⟩,⟨by repeat (first|(with_reducible first|exact HB.out|apply below_alloc|apply pw_below_drewN|apply below_drew1|refine below_set ?_ GE358.out)|exact HB.out)⟩⟩
    ·replace c17 := Bool.eq_false_iff.mpr c17
     subst c17
     have H1 : (privitylaw12_ParamsVanishingPolynomialRoots.j0 k l1 t361 true a0_0 a0_1 a0_2) = some r := by rw [if_neg (show ¬ (false = true) by decide)] at H;exact H
     clear H
     have H := H1
     clear H1
     have H' := Aside0.mk H
     clear H
     have hcz38_0 : w14.cell? ⟨gb358,0,none⟩ = some (.int .u64 a0_0) := (blk_cell BK358.out 0).trans rfl
     have hcz38_1 : w14.cell? ⟨gb358,1,none⟩ = some (.int .i64 a0_1) := (blk_cell BK358.out 1).trans rfl
     have hcz38_2 : w14.cell? ⟨gb358,2,none⟩ = some (.int .i64 a0_2) := (blk_cell BK358.out 2).trans rfl
     have hfz38_0 := blk_frozen BK358.out 0
     have hfz38_1 := blk_frozen BK358.out 1
     have hfz38_2 := blk_frozen BK358.out 2
     go_wp2_with (first|((with_reducible refine gate_callee (f := 26) rfl ?_);refine goesL_ (some 20) rfl rfl Tryd.func26 (by kernel_rfl) rfl #[.agg #[.int .u64 a0_0,.int .i64 a0_1,.int .i64 a0_2],.slice A1 l1.length c1] rfl (by (try simp only [List.map_toArray,List.map_cons,List.map_nil]);first|done|rfl|(simp only [List.length_drop,List.length_take];rfl)) ?_;(with_reducible refine (privityref12_VanishingPolynomial.calls k a0_0 a0_1 a0_2 _ _ l1 t364 _ ?side1 ?side2 A15.out).mono ?_);(case side1 => repeat (first|exact (Kd.C_below HR1.out HB.out)|(with_reducible refine Kd.C_alloc ?_ _)|(with_reducible refine Kd.C_drewN ?_ _)|(with_reducible refine Kd.C_drew ?_)));(case side2 => exact HC1.out);rintro e w39 ⟨v365,rfl,ho0,hb⟩;refine ⟨_,rfl,?_⟩;have n0_ := Aside0.mk (Kd.R_elder' (by (with_reducible repeat (first|apply Kd.R_alloc|apply Kd.R_drewN|apply Kd.R_drew));exact HO363.out) (Kd.R_base ho0) hb);have n1_ := Aside0.mk (Kd.R_lower (Kd.R_new' ho0 (Kd.R_lt (by (with_reducible repeat (first|apply Kd.R_alloc|apply Kd.R_drewN|apply Kd.R_drew));exact HO363.out))) (below_size (by repeat (first|(with_reducible first|exact HB.out|apply below_alloc|apply pw_below_drewN|apply below_drew1|refine below_set ?_ GE358.out)|exact HB.out))));have n2_ := Aside0.mk (blk_below (g := gb358) (o := .cells #[.int .u64 a0_0,.int .i64 a0_1,.int .i64 a0_2] 24 (0,0)) (by (with_reducible repeat (first|refine blk_drewN ?_ _|refine blk_drew ?_|refine blk_alloc ?_ _));exact BK358.out) hb);have n3_ := Aside0.mk (below_step (by repeat (first|(with_reducible first|exact HB.out|apply below_alloc|apply pw_below_drewN|apply below_drew1|refine below_set ?_ GE358.out)|exact HB.out)) hb);clear HO363;clear BK358;clear HB;have HO363 := n0_;have HO366 := n1_;have BK358 := n2_;have HB := n3_;clear n0_ n1_ n2_ n3_;(try clear hb);(try clear hb2);(try clear hk);(try clear hi);(try clear ho0);obtain ⟨Ao40,co40,eo40⟩ := Kd.R_slice HO363.out;subst eo40;obtain ⟨Ao41,co41,eo41⟩ := Kd.R_slice HO366.out;subst eo41)|((with_reducible refine gate_callee (f := 22) rfl ?_);refine goesL_ (some 21) rfl rfl Tryd.func22 (by kernel_rfl) rfl #[.slice Ao40 t361.length co40,.slice Ao41 t364.length co41] rfl (by (try simp only [List.map_toArray,List.map_cons,List.map_nil]);first|done|rfl|(simp only [List.length_drop,List.length_take];rfl)) ?_;(with_reducible refine (privityref05_Same.calls k _ _ t361 _ _ t364 false _ ?side1 ?side2 ?side3 ?side4 A16.out).mono ?_);(case side1 => repeat (first|exact (Kd.R_reads' HO363.out).2.2|(with_reducible refine Kd.C_alloc ?_ _)|(with_reducible refine Kd.C_drewN ?_ _)|(with_reducible refine Kd.C_drew ?_)));(case side2 => exact (Kd.R_reads' HO363.out).2.1);(case side3 => repeat (first|exact (Kd.R_reads' HO366.out).2.2|(with_reducible refine Kd.C_alloc ?_ _)|(with_reducible refine Kd.C_drewN ?_ _)|(with_reducible refine Kd.C_drew ?_)));(case side4 => exact (Kd.R_reads' HO366.out).2.1);rintro e w' ⟨rfl,⟨nd,rfl⟩⟩;refine ⟨_,rfl,?_⟩))
     go_meet
     case rel => exact ⟨_,(true),(by first|rfl|(simp;done)|(simp [*];done)),H',⟨by first|omega|exact Nat.le_refl _⟩,⟨by (with_reducible repeat (first|apply Kd.R_alloc|apply Kd.R_drewN|apply Kd.R_drew));exact Kd.R_mono HO363.out (fun _ hk => trivial)⟩,⟨by (with_reducible repeat (first|refine blk_drewN ?_ _|refine blk_drew ?_|refine blk_alloc ?_ _));exact BK358.out⟩,⟨by repeat (first|(with_reducible first|exact HB.out|apply below_alloc|apply pw_below_drewN|apply below_drew1|refine below_set ?_ GE358.out)|exact HB.out)⟩⟩
   case rest =>
    clear HC8
    try clear c1
    try clear c2
    try clear p2
    try clear p3
    try clear q3
    try clear hx3
    try clear c4
    try clear c6
    try clear p6
    try clear c8
    try clear c9
    try clear c13
    try clear c17
    try clear c18
    try clear c18b0
    try clear c18b1
    try clear c19
    try clear c19b0
    try clear c20
    try clear c20b0
    try clear c21
    try clear c21b0
    try clear c21b1
    try clear c22
    try clear c23
    try clear c26
    try clear p36
    try clear q36
    try clear hx36
    try clear hcz11_0
    try clear hcz11_1
    try clear hcz11_2
    try clear hcz13_0
    try clear hcz13_1
    try clear hcz13_2
    try clear hcz22_0
    try clear hcz22_1
    try clear hcz22_2
    try clear hcz26_0
    try clear hcz26_1
    try clear hcz26_2
    try clear hcz28_0
    try clear hcz28_1
    try clear hcz28_2
    try clear hcz32_0
    try clear hcz32_1
    try clear hcz32_2
    try clear hcz33_0
    try clear hcz33_1
    try clear hcz33_2
    try clear hcz37_0
    try clear hcz37_1
    try clear hcz37_2
    try clear hcz38_0
    try clear hcz38_1
    try clear hcz38_2
    try clear hfz11_0
    try clear hfz11_1
    try clear hfz11_2
    try clear hfz13_0
    try clear hfz13_1
    try clear hfz13_2
    try clear hfz22_0
    try clear hfz22_1
    try clear hfz22_2
    try clear hfz26_0
    try clear hfz26_1
    try clear hfz26_2
    try clear hfz28_0
    try clear hfz28_1
    try clear hfz28_2
    try clear hfz32_0
    try clear hfz32_1
    try clear hfz32_2
    try clear hfz33_0
    try clear hfz33_1
    try clear hfz33_2
    try clear hfz37_0
    try clear hfz37_1
    try clear hfz37_2
    try clear hfz38_0
    try clear hfz38_1
    try clear hfz38_2
    try clear hx368_0
    try clear p368
    try clear q368
    obtain ⟨kq,x45_7,rfl,HA,HJ7,HO_5,BK358,HB⟩ := hcut
    cases kq with
    | zero => exact absurd HA.out (by simp [privitylaw12_ParamsVanishingPolynomialRoots.j0])
    | succ kj7 =>
     have H := HA.out
     clear HA
     simp only [privitylaw12_ParamsVanishingPolynomialRoots.j0] at H
     by_cases c42 : x45_7 = true
     ·subst c42
      have H1 : (some false) = some r := by rw [if_pos rfl] at H;exact H
      clear H
      have H := H1
      clear H1
      exact absurd (Option.some.inj H) (by rw [HRT_.out];simp)
     ·replace c42 := Bool.eq_false_iff.mpr c42
      subst c42
      have H1 : ((params_ExtendCoalition.f a0_0 a0_1 a0_2 l1).bind fun t370 => (privitylaw12_ParamsVanishingPolynomialRoots.l0 kj7 t361 t370 1 a0_0 a0_1 a0_2)) = some r := by rw [if_neg (show ¬ (false = true) by decide)] at H;exact H
      clear H
      have H := H1
      clear H1
      replace H := Option.bind_eq_some_iff.mp H
      obtain ⟨t370,A430,H⟩ := H
      replace H : (privitylaw12_ParamsVanishingPolynomialRoots.l0 kj7 t361 t370 1 a0_0 a0_1 a0_2) = some r := H
      have A43 := Aside0.mk A430
      clear A430
      have H' := Aside0.mk H
      clear H
      have hcz44_0 : wc.cell? ⟨gb358,0,none⟩ = some (.int .u64 a0_0) := (blk_cell BK358.out 0).trans rfl
      have hcz44_1 : wc.cell? ⟨gb358,1,none⟩ = some (.int .i64 a0_1) := (blk_cell BK358.out 1).trans rfl
      have hcz44_2 : wc.cell? ⟨gb358,2,none⟩ = some (.int .i64 a0_2) := (blk_cell BK358.out 2).trans rfl
      have hfz44_0 := blk_frozen BK358.out 0
      have hfz44_1 := blk_frozen BK358.out 1
      have hfz44_2 := blk_frozen BK358.out 2
      go_wp2_with (first|((with_reducible refine gate_callee (f := 16) rfl ?_);refine goesL_ (some 48) rfl rfl Tryd.func16 (by kernel_rfl) rfl #[.agg #[.int .u64 a0_0,.int .i64 a0_1,.int .i64 a0_2],.slice A1 l1.length c1] rfl (by (try simp only [List.map_toArray,List.map_cons,List.map_nil]);first|done|rfl|(simp only [List.length_drop,List.length_take];rfl)) ?_;(with_reducible refine (params_ExtendCoalition.calls a0_0 a0_1 a0_2 _ _ l1 t370 _ ?side1 ?side2 A43.out).mono ?_);(case side1 => repeat (first|exact (Kd.C_below HR1.out HB.out)|(with_reducible refine Kd.C_alloc ?_ _)|(with_reducible refine Kd.C_drewN ?_ _)|(with_reducible refine Kd.C_drew ?_)));(case side2 => exact HC1.out);rintro e w45 ⟨v371,rfl,ho0,hb⟩;refine ⟨_,rfl,?_⟩;have n0_ := Aside0.mk (Kd.R_below (by (with_reducible repeat (first|apply Kd.R_alloc|apply Kd.R_drewN|apply Kd.R_drew));exact HO_5.out) hb);have n1_ := Aside0.mk (Kd.R_lower ho0 (below_size (by repeat (first|(with_reducible first|exact HB.out|apply below_alloc|apply pw_below_drewN|apply below_drew1|refine below_set ?_ GE358.out)|exact HB.out))));have n2_ := Aside0.mk (blk_below (g := gb358) (o := .cells #[.int .u64 a0_0,.int .i64 a0_1,.int .i64 a0_2] 24 (0,0)) (by (with_reducible repeat (first|refine blk_drewN ?_ _|refine blk_drew ?_|refine blk_alloc ?_ _));exact BK358.out) hb);have n3_ := Aside0.mk (below_step (by repeat (first|(with_reducible first|exact HB.out|apply below_alloc|apply pw_below_drewN|apply below_drew1|refine below_set ?_ GE358.out)|exact HB.out)) hb);clear HO_5;clear BK358;clear HB;have HO_5 := n0_;have HO372 := n1_;have BK358 := n2_;have HB := n3_;clear n0_ n1_ n2_ n3_;(try clear hb);(try clear hb2);(try clear hk);(try clear hi);(try clear ho0)))
      go_loopg [7] kj7 (fun kq v7 w' => ∃ (x7_2 : Int),v7 = .int .i64 x7_2 ∧ Aside0 (privitylaw12_ParamsVanishingPolynomialRoots.l0 kq t361 t370 x7_2 a0_0 a0_1 a0_2 = some r) ∧ Aside0 (kq ≤ kj7) ∧ Aside0 (Kd.R (Kd.int .u64) 22 w' w.heap.size (fun _ => True) v362 t361) ∧ Aside0 (Kd.R (Kd.int .i64) 3 w' w.heap.size (fun _ => True) v371 t370) ∧ Aside0 (w'.heap[gb358]? = some (.cells #[.int .u64 a0_0,.int .i64 a0_1,.int .i64 a0_2] 24 (0,0))) ∧ Aside0 (Below w.heap.size w w'))
      case atStart => exact ⟨(1),(by first|rfl|(simp;done)|(simp [*];done)),H',⟨Nat.le_refl _⟩,⟨by (with_reducible repeat (first|apply Kd.R_alloc|apply Kd.R_drewN|apply Kd.R_drew));exact HO_5.out⟩,⟨by (with_reducible repeat (first|apply Kd.R_alloc|apply Kd.R_drewN|apply Kd.R_drew));exact HO372.out⟩,⟨by (with_reducible repeat (first|refine blk_drewN ?_ _|refine blk_drew ?_|refine blk_alloc ?_ _));exact BK358.out⟩,⟨by repeat (first|(with_reducible first|exact HB.out|apply below_alloc|apply pw_below_drewN|apply below_drew1|refine below_set ?_ GE358.out)|exact HB.out)⟩⟩
      case round =>
       clear H'
       try clear c1
       try clear c2
       try clear p2
       try clear p3
       try clear q3
       try clear hx3
       try clear c4
       try clear c6
       try clear p6
       try clear c8
       try clear c9
       try clear c13
       try clear c16
       try clear c17
       try clear c18
       try clear c18b0
       try clear c18b1
       try clear c19
       try clear c19b0
       try clear c20
       try clear c20b0
       try clear c21
       try clear c21b0
       try clear c21b1
       try clear c22
       try clear c23
       try clear c26
       try clear p36
       try clear q36
       try clear hx36
       try clear c42
       try clear hcz11_0
       try clear hcz11_1
       try clear hcz11_2
       try clear hcz13_0
       try clear hcz13_1
       try clear hcz13_2
       try clear hcz22_0
       try clear hcz22_1
       try clear hcz22_2
       try clear hcz26_0
       try clear hcz26_1
       try clear hcz26_2
       try clear hcz28_0
       try clear hcz28_1
       try clear hcz28_2
       try clear hcz32_0
       try clear hcz32_1
       try clear hcz32_2
       try clear hcz33_0
       try clear hcz33_1
       try clear hcz33_2
       try clear hcz37_0
       try clear hcz37_1
       try clear hcz37_2
       try clear hcz38_0
       try clear hcz38_1
       try clear hcz38_2
       try clear hcz44_0
       try clear hcz44_1
       try clear hcz44_2
       try clear hfz11_0
       try clear hfz11_1
       try clear hfz11_2
       try clear hfz13_0
       try clear hfz13_1
       try clear hfz13_2
       try clear hfz22_0
       try clear hfz22_1
       try clear hfz22_2
       try clear hfz26_0
       try clear hfz26_1
       try clear hfz26_2
       try clear hfz28_0
       try clear hfz28_1
       try clear hfz28_2
       try clear hfz32_0
       try clear hfz32_1
       try clear hfz32_2
       try clear hfz33_0
       try clear hfz33_1
       try clear hfz33_2
       try clear hfz37_0
       try clear hfz37_1
       try clear hfz37_2
       try clear hfz38_0
       try clear hfz38_1
       try clear hfz38_2
       try clear hfz44_0
       try clear hfz44_1
       try clear hfz44_2
       try clear hx368_0
       try clear p2
       try clear p3
       try clear p36
       try clear p368
       try clear p6
       try clear q3
       try clear q36
       try clear q368
       obtain ⟨x7_2,rfl,HA,HK2,HO_5,HO_6,BK358,HB⟩ := hrel
       cases gk with
       | zero => exact absurd HA.out (by simp [privitylaw12_ParamsVanishingPolynomialRoots.l0])
       | succ k2 =>
        have H := HA.out
        clear HA
        simp only [privitylaw12_ParamsVanishingPolynomialRoots.l0] at H
        by_cases c46 : x7_2 ≤ a0_1
        ·rw [if_pos c46] at H
         have c46b0 : decide (x7_2 ≤ a0_1) = true := decide_eq_true c46
         clear c46
         replace H := Option.bind_eq_some_iff.mp H
         obtain ⟨t373,A470,H⟩ := H
         replace H : ((privityref12_In.f k2 t370 x7_2).bind fun t374 => (if ((t373 == 0) != t374) = true then (some false) else (privitylaw12_ParamsVanishingPolynomialRoots.l0 k2 t361 t370 (wrap64 (x7_2 + 1)) a0_0 a0_1 a0_2))) = some r := H
         have A47 := Aside0.mk A470
         clear A470
         replace H := Option.bind_eq_some_iff.mp H
         obtain ⟨t374,A480,H⟩ := H
         replace H : (if ((t373 == 0) != t374) = true then (some false) else (privitylaw12_ParamsVanishingPolynomialRoots.l0 k2 t361 t370 (wrap64 (x7_2 + 1)) a0_0 a0_1 a0_2)) = some r := H
         have A48 := Aside0.mk A480
         clear A480
         by_cases c49 : ((t373 == 0) != t374) = true
         ·rw [if_pos c49] at H
          have c49b0 : ((t373 == 0) != t374) = true := c49
          (try (have c49b1 : decide ((t373 == 0) = t374) = false := by simpa using c49))
          (try (have c49b2 : ((t373 == 0) == t374) = false := by simpa using c49))
          (try (have c49b3 : ¬ ((t373 == 0) = t374) := by simpa using c49))
          clear c49
          obtain rfl := Option.some.inj H
          have hcz50_0 : wr.cell? ⟨gb358,0,none⟩ = some (.int .u64 a0_0) := (blk_cell BK358.out 0).trans rfl
          have hcz50_1 : wr.cell? ⟨gb358,1,none⟩ = some (.int .i64 a0_1) := (blk_cell BK358.out 1).trans rfl
          have hcz50_2 : wr.cell? ⟨gb358,2,none⟩ = some (.int .i64 a0_2) := (blk_cell BK358.out 2).trans rfl
          have hfz50_0 := blk_frozen BK358.out 0
          have hfz50_1 := blk_frozen BK358.out 1
          have hfz50_2 := blk_frozen BK358.out 2
          obtain ⟨Ao51,co51,eo51⟩ := Kd.R_slice HO_5.out
          subst eo51
          go_wp2_with (first|((with_reducible refine gate_callee (f := 27) rfl ?_);refine goesL_ (some 60) rfl rfl Tryd.func27 (by kernel_rfl) rfl #[.int .u64 a0_0,.slice Ao51 t361.length co51,.int .u64 (IntKind.u64.wrap (x7_2))] rfl (by (try simp only [List.map_toArray,List.map_cons,List.map_nil]);first|done|rfl|(simp only [List.length_drop,List.length_take];rfl)) ?_;(with_reducible refine (poly_Eval.calls k2 a0_0 _ _ t361 (IntKind.u64.wrap (x7_2)) t373 _ ?side1 ?side2 A47.out).mono ?_);(case side1 => repeat (first|exact (Kd.R_reads' HO_5.out).2.2|(with_reducible refine Kd.C_alloc ?_ _)|(with_reducible refine Kd.C_drewN ?_ _)|(with_reducible refine Kd.C_drew ?_)));(case side2 => exact (Kd.R_reads' HO_5.out).2.1);rintro e w' ⟨rfl,⟨nd,rfl⟩⟩;refine ⟨_,rfl,?_⟩;obtain ⟨Ao52,co52,eo52⟩ := Kd.R_slice HO_6.out;subst eo52)|((with_reducible refine gate_callee (f := 21) rfl ?_);refine goesL_ (some 64) rfl rfl Tryd.func21 (by kernel_rfl) rfl #[.slice Ao52 t370.length co52,.int .i64 x7_2] rfl (by (try simp only [List.map_toArray,List.map_cons,List.map_nil]);first|done|rfl|(simp only [List.length_drop,List.length_take];rfl)) ?_;(with_reducible refine (privityref12_In.calls k2 _ _ t370 x7_2 t374 _ ?side1 ?side2 A48.out).mono ?_);(case side1 => repeat (first|exact (Kd.R_reads' HO_6.out).2.2|(with_reducible refine Kd.C_alloc ?_ _)|(with_reducible refine Kd.C_drewN ?_ _)|(with_reducible refine Kd.C_drew ?_)));(case side2 => exact (Kd.R_reads' HO_6.out).2.1);rintro e w' ⟨rfl,⟨nd,rfl⟩⟩;refine ⟨_,rfl,?_⟩))
          go_ret
          exact ⟨by first|rfl|(simp [errW_none,errW_some] <;> rfl)|(simp [*,errW_none,errW_some] <;> rfl),by repeat (first|(with_reducible first|exact HB.out|apply below_alloc|apply pw_below_drewN|apply below_drew1|refine below_set ?_ GE358.out)|exact HB.out)⟩
         ·rw [if_neg c49] at H
          have c49b0 : ((t373 == 0) != t374) = false := by simpa using c49
          (try (have c49b1 : decide ((t373 == 0) = t374) = true := by simpa using c49))
          (try (have c49b2 : ((t373 == 0) == t374) = true := by simpa using c49))
          clear c49
          have H' := Aside0.mk H
          clear H
          have hcz53_0 : wr.cell? ⟨gb358,0,none⟩ = some (.int .u64 a0_0) := (blk_cell BK358.out 0).trans rfl
          have hcz53_1 : wr.cell? ⟨gb358,1,none⟩ = some (.int .i64 a0_1) := (blk_cell BK358.out 1).trans rfl
          have hcz53_2 : wr.cell? ⟨gb358,2,none⟩ = some (.int .i64 a0_2) := (blk_cell BK358.out 2).trans rfl
          have hfz53_0 := blk_frozen BK358.out 0
          have hfz53_1 := blk_frozen BK358.out 1
          have hfz53_2 := blk_frozen BK358.out 2
          obtain ⟨Ao54,co54,eo54⟩ := Kd.R_slice HO_5.out
          subst eo54
          go_wp2_with (first|((with_reducible refine gate_callee (f := 27) rfl ?_);refine goesL_ (some 60) rfl rfl Tryd.func27 (by kernel_rfl) rfl #[.int .u64 a0_0,.slice Ao54 t361.length co54,.int .u64 (IntKind.u64.wrap (x7_2))] rfl (by (try simp only [List.map_toArray,List.map_cons,List.map_nil]);first|done|rfl|(simp only [List.length_drop,List.length_take];rfl)) ?_;(with_reducible refine (poly_Eval.calls k2 a0_0 _ _ t361 (IntKind.u64.wrap (x7_2)) t373 _ ?side1 ?side2 A47.out).mono ?_);(case side1 => repeat (first|exact (Kd.R_reads' HO_5.out).2.2|(with_reducible refine Kd.C_alloc ?_ _)|(with_reducible refine Kd.C_drewN ?_ _)|(with_reducible refine Kd.C_drew ?_)));(case side2 => exact (Kd.R_reads' HO_5.out).2.1);rintro e w' ⟨rfl,⟨nd,rfl⟩⟩;refine ⟨_,rfl,?_⟩;obtain ⟨Ao55,co55,eo55⟩ := Kd.R_slice HO_6.out;subst eo55)|((with_reducible refine gate_callee (f := 21) rfl ?_);refine goesL_ (some 64) rfl rfl Tryd.func21 (by kernel_rfl) rfl #[.slice Ao55 t370.length co55,.int .i64 x7_2] rfl (by (try simp only [List.map_toArray,List.map_cons,List.map_nil]);first|done|rfl|(simp only [List.length_drop,List.length_take];rfl)) ?_;(with_reducible refine (privityref12_In.calls k2 _ _ t370 x7_2 t374 _ ?side1 ?side2 A48.out).mono ?_);(case side1 => repeat (first|exact (Kd.R_reads' HO_6.out).2.2|(with_reducible refine Kd.C_alloc ?_ _)|(with_reducible refine Kd.C_drewN ?_ _)|(with_reducible refine Kd.C_drew ?_)));(case side2 => exact (Kd.R_reads' HO_6.out).2.1);rintro e w' ⟨rfl,⟨nd,rfl⟩⟩;refine ⟨_,rfl,?_⟩))
          go_roundg k2
          case measure => have := HJ7.out;have := HK2.out;omega
          case rel => exact ⟨(wrap64 (x7_2 + 1)),(by first|rfl|(simp;done)|(simp [*];done)),H',⟨by have := HJ7.out;have := HK2.out;omega⟩,⟨by (with_reducible repeat (first|apply Kd.R_alloc|apply Kd.R_drewN|apply Kd.R_drew));exact HO_5.out⟩,⟨by (with_reducible repeat (first|apply Kd.R_alloc|apply Kd.R_drewN|apply Kd.R_drew));exact HO_6.out⟩,⟨by (with_reducible repeat (first|refine blk_drewN ?_ _|refine blk_drew ?_|refine blk_alloc ?_ _));exact BK358.out⟩,⟨by repeat (first|(with_reducible first|exact HB.out|apply below_alloc|apply pw_below_drewN|apply below_drew1|refine below_set ?_ GE358.out)|exact HB.out)⟩⟩
        ·rw [if_neg c46] at H
         have c46b0 : decide (x7_2 ≤ a0_1) = false := decide_eq_false c46
         clear c46
         obtain rfl := Option.some.inj H
         have hcz56_0 : wr.cell? ⟨gb358,0,none⟩ = some (.int .u64 a0_0) := (blk_cell BK358.out 0).trans rfl
         have hcz56_1 : wr.cell? ⟨gb358,1,none⟩ = some (.int .i64 a0_1) := (blk_cell BK358.out 1).trans rfl
         have hcz56_2 : wr.cell? ⟨gb358,2,none⟩ = some (.int .i64 a0_2) := (blk_cell BK358.out 2).trans rfl
         have hfz56_0 := blk_frozen BK358.out 0
         have hfz56_1 := blk_frozen BK358.out 1
         have hfz56_2 := blk_frozen BK358.out 2
         go_wp2
         go_ret
         exact ⟨by first|rfl|(simp [errW_none,errW_some] <;> rfl)|(simp [*,errW_none,errW_some] <;> rfl),by repeat (first|(with_reducible first|exact HB.out|apply below_alloc|apply pw_below_drewN|apply below_drew1|refine below_set ?_ GE358.out)|exact HB.out)⟩
  ·replace c6 := Bool.eq_false_iff.mpr c6
   subst c6
   have H1 : (some true) = some r := by rw [if_neg (show ¬ (false = true) by decide)] at H;exact H
   clear H
   have H := H1
   clear H1
   obtain rfl := Option.some.inj H
   go_enter Tryd.func8,Tryd.ntmps8
   go_wp2_with (first|((with_reducible refine gate_dst (N := 2) rfl ?_);(try (refine gate_guard (by rfl) ?_;dsimp only));refine box_event ?hg (N := 2) ?hd (cs := #[.int .u64 a0_0,.int .i64 a0_1,.int .i64 a0_2]) (t := 24) ?hr ?_;(case hd => rfl);(case hg => rfl);(case hr => first|(go_simp;done)|(go_simp;rfl));intro gb358 hg w57 hbox hb;have n0_ := Aside0.mk (below_step (by repeat (first|(with_reducible first|exact HB.out|apply below_alloc|apply pw_below_drewN|apply below_drew1)|exact HB.out)) hb);have n1_ := Aside0.mk (hbox);have n2_ := Aside0.mk ((by rw [hg];exact (below_size (by repeat (first|(with_reducible first|exact HB.out|apply below_alloc|apply pw_below_drewN|apply below_drew1)|exact HB.out))) : w.heap.size ≤ gb358));have n3_ := Aside0.mk ((by rw [hg];exact (below_size (by repeat (first|(with_reducible first|exact HB.out|apply below_alloc|apply pw_below_drewN|apply below_drew1)|exact HB.out))) : w.heap.size ≤ gb358));clear HB;have HB := n0_;have BK358 := n1_;have GW358 := n2_;have GE358 := n3_;clear n0_ n1_ n2_ n3_;clear hb hbox hg)|((with_reducible refine gate_callee (f := 9) rfl ?_);refine goesL_ (some 8) rfl rfl Tryd.func9 (by kernel_rfl) rfl #[] rfl (by (try simp only [List.map_toArray,List.map_cons,List.map_nil]);first|done|rfl|(simp only [List.length_drop,List.length_take];rfl)) ?_;(with_reducible refine (privitylaw12_awake.calls  true _ ?sidehx A3.out).mono ?_);(case sidehx => repeat (first|exact HX_.out|exact (Hx_below HX_.out HB.out)|(with_reducible refine Hx_alloc ?_ _)|(with_reducible refine Hx_drewN ?_ _)|(with_reducible refine Hx_drew ?_)));rintro e w58 ⟨rfl,hb⟩;refine ⟨_,rfl,?_⟩;have n0_ := Aside0.mk (blk_below (g := gb358) (o := .cells #[.int .u64 a0_0,.int .i64 a0_1,.int .i64 a0_2] 24 (0,0)) (by (with_reducible repeat (first|refine blk_drewN ?_ _|refine blk_drew ?_|refine blk_alloc ?_ _));exact BK358.out) hb);have n1_ := Aside0.mk (below_step (by repeat (first|(with_reducible first|exact HB.out|apply below_alloc|apply pw_below_drewN|apply below_drew1|refine below_set ?_ GE358.out)|exact HB.out)) hb);clear BK358;clear HB;have BK358 := n0_;have HB := n1_;clear n0_ n1_;(try clear hb);(try clear hb2);(try clear hk);(try clear hi);have hcz59_0 : w58.cell? ⟨gb358,0,none⟩ = some (.int .u64 a0_0) := (blk_cell BK358.out 0).trans rfl;have hcz59_1 : w58.cell? ⟨gb358,1,none⟩ = some (.int .i64 a0_1) := (blk_cell BK358.out 1).trans rfl;have hcz59_2 : w58.cell? ⟨gb358,2,none⟩ = some (.int .i64 a0_2) := (blk_cell BK358.out 2).trans rfl;have hfz59_0 := blk_frozen BK358.out 0;have hfz59_1 := blk_frozen BK358.out 1;have hfz59_2 := blk_frozen BK358.out 2)|((with_reducible refine gate_callee (f := 13) rfl ?_);refine goesL_ (some 12) rfl rfl Tryd.func13 (by kernel_rfl) rfl #[.agg #[.int .u64 a0_0,.int .i64 a0_1,.int .i64 a0_2],.slice A1 l1.length c1] rfl (by (try simp only [List.map_toArray,List.map_cons,List.map_nil]);first|done|rfl|(simp only [List.length_drop,List.length_take];rfl)) ?_;(with_reducible refine (privityref12_ValidCoalition.calls k a0_0 a0_1 a0_2 _ _ l1 false _ ?side1 ?side2 A5.out).mono ?_);(case side1 => repeat (first|exact (Kd.C_below HR1.out HB.out)|(with_reducible refine Kd.C_alloc ?_ _)|(with_reducible refine Kd.C_drewN ?_ _)|(with_reducible refine Kd.C_drew ?_)));(case side2 => exact HC1.out);rintro e w60 ⟨rfl,hb⟩;refine ⟨_,rfl,?_⟩;have n0_ := Aside0.mk (blk_below (g := gb358) (o := .cells #[.int .u64 a0_0,.int .i64 a0_1,.int .i64 a0_2] 24 (0,0)) (by (with_reducible repeat (first|refine blk_drewN ?_ _|refine blk_drew ?_|refine blk_alloc ?_ _));exact BK358.out) hb);have n1_ := Aside0.mk (below_step (by repeat (first|(with_reducible first|exact HB.out|apply below_alloc|apply pw_below_drewN|apply below_drew1|refine below_set ?_ GE358.out)|exact HB.out)) hb);clear BK358;clear HB;have BK358 := n0_;have HB := n1_;clear n0_ n1_;(try clear hb);(try clear hb2);(try clear hk);(try clear hi)))
   go_ret
   exact ⟨by first|rfl|(simp [errW_none,errW_some] <;> rfl)|(simp [*,errW_none,errW_some] <;> rfl),by repeat (first|(with_reducible first|exact HB.out|apply below_alloc|apply pw_below_drewN|apply below_drew1|refine below_set ?_ GE358.out)|exact HB.out)⟩
 ·replace c4 := Bool.eq_false_iff.mpr c4
  subst c4
  have H1 : (some false) = some r := by rw [if_neg (show ¬ (false = true) by decide)] at H;exact H
  clear H
  have H := H1
  clear H1
  exact absurd (Option.some.inj H) (by rw [HRT_.out];simp)
end Go.Proofs.YtakaonojfpkhnaaDoor.Pr
end
section
/-
  The reference of layer 4: what its printed functions answer.
-/
namespace Go.Proofs.YtakaonojfpkhnaaDoor.E
open Go.RowKit Go.Proofs.YtakaonojfpkhnaaDoor.Pr Go.Proofs.YtakaonojfpkhnaaDoor.Hw Go.Proofs.YtakaonojfpkhnaaDoor.Pl Go.Proofs.YtakaonojfpkhnaaDoorW.PrintWords Go.Proofs.YtakaonojfpkhnaaDoorW.PrintLast Go.Proofs.YtakaonojfpkhnaaDoorW.PrintMore
set_option linter.unusedVariables false
set_option linter.unusedSimpArgs false

theorem rtrim_l0 (l : List Int) (hl : l.length ≤ 1099511627776) : ∀ (m : Nat), m ≤ l.length → (∀ j, m ≤ j → l.getD j 0 = 0) → Ev (fun k => privityref04_Trim.l0 k l (m : Int)) (trimL l) := by
  have hend : ∀ m : Nat, (trimL l).length = m → m ≤ l.length → ((some (([] : List Int) : List Int)).bind fun y250 => (if 0 ≤ (m : Int) then (if (m : Int) ≤ (l.length : Int) then (if y250.length + (l.take ((m : Int) : Int).toNat).length < 17592186044416 then (some (y250 ++ (l.take ((m : Int) : Int).toNat))) else (none)) else (none)) else (none))) = some (trimL l) := by
    intro m hm hle
    rw [Option.bind_some, if_pos (by omega), if_pos (by omega), Int.toNat_natCast, ← hm, trimL_take, if_pos (by have := trimL_length l; simp; omega)]
    rfl
  intro m
  induction m with
  | zero =>
    intro _ hz
    have : trimL l = [] := (trimL_nil_iff l).2 fun i => hz i (Nat.zero_le _)
    refine Ev.step (fun k => ?_) (Ev.now _)
    simp only [privityref04_Trim.l0]
    rw [if_neg (by omega)]
    exact hend 0 (by rw [this]; rfl) (Nat.zero_le _)
  | succ m ih =>
    intro hm hz
    have e : wrap64 (((m + 1 : Nat) : Int) - 1) = (m : Int) := by rw [wrap64]; omega
    by_cases h0 : l.getD m 0 = 0
    · refine Ev.step (fun k => ?_) (ih (by omega) (fun j hj => by
        by_cases e : j = m
        · rw [e]; exact h0
        · exact hz j (by omega)))
      simp only [privityref04_Trim.l0]
      rw [if_pos (by omega), e, if_pos (by omega), if_pos (by omega), rd_nat, if_pos h0]
    · refine Ev.step (fun k => ?_) (Ev.now _)
      simp only [privityref04_Trim.l0]
      rw [if_pos (by omega), e, if_pos (by omega), if_pos (by omega), rd_nat, if_neg h0]
      refine hend (m + 1) ?_ hm
      have hne : trimL l ≠ [] := fun e => h0 ((trimL_nil_iff l).1 e m)
      have hp : 0 < (trimL l).length := List.length_pos_iff.2 hne
      have h2 := trimL_last l hne
      rw [trimL_getD] at h2
      have h3 : (trimL l).length - 1 < m + 1 := Nat.lt_of_not_le fun h => h2 (hz _ h)
      have h4 : m < (trimL l).length := Nat.lt_of_not_le fun h => h0 (by rw [← trimL_getD, List.getD_eq_getElem?_getD, List.getElem?_eq_none h]; rfl)
      omega
theorem getD_out (l : List Int) (j : Nat) (h : l.length ≤ j) : l.getD j 0 = 0 := by rw [List.getD_eq_getElem?_getD, List.getElem?_eq_none h]; rfl
theorem rtrim_ev (l : List Int) (hl : l.length ≤ 1099511627776) : Ev (fun k => privityref04_Trim.f k l) (trimL l) :=
  rtrim_l0 l hl l.length (Nat.le_refl _) (fun j hj => getD_out l j hj)
theorem res_getD {p : Int} (hp : Supp p) {l : List Int} (hl : ∀ x ∈ l, Res p x) (i : Nat) : Res p (l.getD i 0) := by
  have hb := hp.bd
  by_cases hi : i < l.length
  · rw [Hw.getD_in _ _ hi]; exact hl _ (List.getElem_mem hi)
  · rw [getD_out l i (by omega)]; exact ⟨Int.le_refl 0, by show (0 : Int) < p; omega⟩
/-! ### Coefficients of what the program adds up -/
theorem grow_getD (l : List Int) (n j : Nat) : (grow l n).getD j 0 = l.getD j 0 := by
  unfold grow
  by_cases h : j < l.length
  · rw [List.getD_eq_getElem?_getD, List.getD_eq_getElem?_getD, List.getElem?_append_left h]
  · rw [getD_out l j (by omega), List.getD_eq_getElem?_getD, List.getElem?_append_right (by omega)]
    by_cases h2 : j - l.length < n - l.length
    · rw [List.getElem?_replicate, if_pos h2]; rfl
    · rw [List.getElem?_replicate, if_neg h2]; rfl
theorem putL_getD (p : Int) (l : List Int) (i : Nat) (k : Int) (j : Nat) : (putL p l i k).getD j 0 = if j = i then (l.getD i 0 + k) % p else l.getD j 0 := by
  have hg : i < (grow l (i + 1)).length := by unfold grow; simp; omega
  unfold putL
  rw [List.getD_eq_getElem?_getD, List.getElem?_set]
  by_cases h : i = j
  · subst h; rw [if_pos rfl, if_pos hg, if_pos rfl, grow_getD]; rfl
  · rw [if_neg h, if_neg (fun e => h e.symm), ← List.getD_eq_getElem?_getD, grow_getD]
/-! ### Sum -/
theorem list_ext_getD {a b : List Int} (hl : a.length = b.length) (h : ∀ i, a.getD i 0 = b.getD i 0) : a = b := by
  apply List.ext_getElem hl
  intro i h1 h2
  have := h i
  rwa [Hw.getD_in _ _ h1, Hw.getD_in _ _ h2] at this
theorem grow_length (l : List Int) (n : Nat) : (grow l n).length = max l.length n := by unfold grow; simp; omega
/-- The state of the reference: the program's, filled up with zeros. -/
theorem put_grow (p : Int) (l : List Int) (N i : Nat) (k : Int) (hl : l.length ≤ N) (hi : i < N) : (grow l N).set i (((grow l N).getD i 0 + k) % p) = grow (putL p l i k) N := by
  refine list_ext_getD ?_ fun j => ?_
  · rw [List.length_set, grow_length, grow_length, putL_length]; omega
  · rw [grow_getD (putL p l i k), putL_getD, List.getD_eq_getElem?_getD, List.getElem?_set]
    by_cases h : i = j
    · subst h; rw [if_pos rfl, if_pos (by rw [grow_length]; omega), if_pos rfl, grow_getD]; rfl
    · rw [if_neg h, if_neg (fun e => h e.symm), ← List.getD_eq_getElem?_getD, grow_getD]
theorem rowL_len (p : Int) (m : List Int) (u : Int) (b : List Int) (i : Nat) : ∀ n, (rowL p m u b i n).length = if n = 0 then m.length else max m.length (i + n)
  | 0 => rfl
  | n + 1 => by
    rw [rowL, putL_length, rowL_len p m u b i n, if_neg (Nat.succ_ne_zero n)]
    by_cases h : n = 0
    · rw [if_pos h]; omega
    · rw [if_neg h]; omega
theorem mulsL_len (p : Int) (a b : List Int) (hb : 0 < b.length) : ∀ n, (mulsL p a b n).length = if n = 0 then 0 else n + b.length - 1
  | 0 => rfl
  | n + 1 => by
    rw [mulsL, rowL_len, mulsL_len p a b hb n, if_neg (by omega : ¬ b.length = 0), if_neg (Nat.succ_ne_zero n)]
    by_cases h : n = 0
    · rw [if_pos h]; omega
    · rw [if_neg h]; omega
theorem mulsL_nil (p : Int) (a : List Int) : ∀ n, mulsL p a [] n = []
  | 0 => rfl
  | n + 1 => by rw [mulsL, mulsL_nil p a n]; rfl
theorem trimL_grow (l : List Int) (n : Nat) : trimL (grow l n) = trimL l := trimL_ext fun i => grow_getD l n i
theorem grow_nil (n : Nat) : grow [] n = List.replicate n 0 := by unfold grow; simp
theorem rmulL_ev {p : Int} (hp : Supp p) {a b : List Int} (ha : ∀ x ∈ a, Res p x) (hb : ∀ x ∈ b, Res p x) (la : a.length ≤ 1000000) (lb : b.length ≤ 1000000) : Ev (fun k => privityref04_Mul.f k p a b) (trimL (mulsL p a b a.length)) := by
  by_cases h0 : a.length = 0
  · have : a = [] := List.eq_nil_of_length_eq_zero h0
    subst this
    refine Ev.step (f := fun k => some []) (fun k => ?_) (Ev.now _)
    simp only [privityref04_Mul.f]
    rw [if_pos (by rfl)]
    simp only [privityref04_Mul.j0]
    rw [if_pos trivial]
  by_cases h1 : b.length = 0
  · have : b = [] := List.eq_nil_of_length_eq_zero h1
    subst this
    rw [mulsL_nil]
    refine Ev.step (f := fun k => some []) (fun k => ?_) (Ev.now _)
    simp only [privityref04_Mul.f]
    rw [if_neg (by omega)]
    simp only [privityref04_Mul.j0]
    rw [if_pos (by rfl)]
  have hw : wrap64 (wrap64 ((a.length : Int) + (b.length : Int)) - 1) = ((a.length + b.length - 1 : Nat) : Int) := by rw [wcap (n := (a.length : Int) + (b.length : Int)) (by omega) (by omega), wcap (by omega) (by omega)]; omega
  have main : Ev (fun k => privityref04_Mul.l0 k p a b (grow (mulsL p a b 0) (a.length + b.length - 1)) ((0 : Nat) : Int)) (trimL (mulsL p a b a.length)) := by
    refine up (Q := fun i => Ev (fun k => privityref04_Mul.l0 k p a b (grow (mulsL p a b i) (a.length + b.length - 1)) (i : Int)) (trimL (mulsL p a b a.length))) (n := a.length) ?_ ?_
    · refine Ev.step (f := fun k => (privityref04_Trim.f k (grow (mulsL p a b a.length) (a.length + b.length - 1))).bind fun t => some t) (fun k => ?_) ?_
      · simp only [privityref04_Mul.l0]
        rw [if_neg (by omega)]
      · have := rtrim_ev (grow (mulsL p a b a.length) (a.length + b.length - 1)) (by rw [grow_length, mulsL_len _ _ _ (by omega), if_neg h0]; omega)
        rw [trimL_grow] at this
        exact Ev.bind this (Ev.now _)
    · intro i hi h
      have row : Ev (fun k => privityref04_Mul.l1 k p a b (grow (rowL p (mulsL p a b i) (rd a i) b i 0) (a.length + b.length - 1)) (i : Int) ((0 : Nat) : Int)) (trimL (mulsL p a b a.length)) := by
        refine up (Q := fun j => Ev (fun k => privityref04_Mul.l1 k p a b (grow (rowL p (mulsL p a b i) (rd a i) b i j) (a.length + b.length - 1)) (i : Int) (j : Int)) (trimL (mulsL p a b a.length))) (n := b.length) ?_ ?_
        · refine Ev.step (fun k => ?_) h
          simp only [privityref04_Mul.l1]
          rw [if_neg (by omega), wnat (by omega)]
          rfl
        · intro j hj h2
          have hlen : (rowL p (mulsL p a b i) (rd a i) b i j).length ≤ a.length + b.length - 1 := by
            rw [rowL_len, mulsL_len _ _ _ (by omega)]; split <;> split <;> omega
          have e : wrap64 ((i : Int) + (j : Int)) = ((i + j : Nat) : Int) := by rw [wcap (by omega) (by omega)]; omega
          have hres : ∀ x ∈ grow (rowL p (mulsL p a b i) (rd a i) b i j) (a.length + b.length - 1), Res p x := grow_res hp (rowL_res hp (mulsL_res hp _ _ _) _ _ _ _) _
          rw [rowL, ← put_grow p _ _ _ _ hlen (by omega)] at h2
          refine Ev.step (f := fun k => (privityref01_Mul.f k p (a.getD i 0) (b.getD j 0)).bind fun t266 => ((privityref01_Add.f p ((grow (rowL p (mulsL p a b i) (rd a i) b i j) (a.length + b.length - 1)).getD (i + j) 0) t266).bind fun t267 => (privityref04_Mul.l1 k p a b ((grow (rowL p (mulsL p a b i) (rd a i) b i j) (a.length + b.length - 1)).set (i + j) t267) (i : Int) ((j + 1 : Nat) : Int)))) (fun k => ?_) (Ev.bind (rmul_ev hp (res_getD hp ha i) (res_getD hp hb j)) ?_)
          · simp only [privityref04_Mul.l1]
            rw [if_pos (by omega), e, if_pos (by omega), if_pos (by rw [grow_length]; omega), if_pos (by omega), if_pos (by omega), if_pos (by omega), rd_nat, rd_nat, rd_nat, Int.toNat_natCast, wnat (by omega)]
          · rw [radd_eq hp (res_getD hp hres _) (Res.mod hp _)]
            refine Ev.bind (g := fun _ => some _) (Ev.now _) ?_
            rw [rd_nat a i, rd_nat b j] at h2
            exact h2
      refine Ev.step (fun k => ?_) row
      simp only [privityref04_Mul.l0]
      rw [if_pos (by omega)]; rfl
  rw [show mulsL p a b 0 = [] from rfl, grow_nil] at main
  have h2 : Ev (fun k => privityref04_Mul.j0 k p a b false) (trimL (mulsL p a b a.length)) := by
    refine Ev.step (fun k => ?_) main
    simp only [privityref04_Mul.j0]
    rw [if_neg (by simp), hw, if_pos (by omega), Int.toNat_natCast, if_pos (by omega)]; rfl
  refine h2.congr fun k => ?_
  unfold privityref04_Mul.f
  rw [if_neg (by omega), show ((b.length : Int) == 0) = false from by rw [beq_eq_false_iff_ne]; omega]
end Go.Proofs.YtakaonojfpkhnaaDoor.E
end
section
/- Printed by a program of this seat (the kit's printer, with the functions that were proved by hand given to it). What stands here: the functions that the statements reach, as plain functions, and that the Go code computes them. -/
namespace Go.Proofs.YtakaonojfpkhnaaDoor.Pr
open Go.RowKit Go.Proofs.YtakaonojfpkhnaaDoorW.PrintWords Go.Proofs.YtakaonojfpkhnaaDoorW.PrintLast Go.Proofs.YtakaonojfpkhnaaDoorW.PrintMore
attribute [local go_sem] max2_int min2_int max_two min_two max_three min_three max_four min_four   -- for this text's walks alone
set_option linter.unusedVariables false
set_option linter.unusedSimpArgs false

open Go.Proofs.YtakaonojfpkhnaaDoor.Hw
/-! ### privityref12_Deviation: function 25 -/
/-! ### privityref05_Below: function 37 -/
end Go.Proofs.YtakaonojfpkhnaaDoor.Pr
end
section
/-
  The reference of layer 5: what its printed functions answer.
-/
namespace Go.Proofs.YtakaonojfpkhnaaDoor.E
open Go.RowKit Go.Proofs.YtakaonojfpkhnaaDoor.Pr Go.Proofs.YtakaonojfpkhnaaDoor.Hw Go.Proofs.YtakaonojfpkhnaaDoor.Pl Go.Proofs.YtakaonojfpkhnaaDoorW.PrintWords Go.Proofs.YtakaonojfpkhnaaDoorW.PrintLast Go.Proofs.YtakaonojfpkhnaaDoorW.PrintMore
set_option linter.unusedVariables false
set_option linter.unusedSimpArgs false

/-- A loop that answers false at the first i that Q does not hold of. -/
theorem allLoop {F : Nat → Int → Option Bool} {n : Nat} {Q : Nat → Prop} [DecidablePred Q] (hend : ∀ k, F (k + 1) (n : Int) = some true) (hyes : ∀ i, i < n → Q i → ∀ r, Ev (fun k => F k ((i + 1 : Nat) : Int)) r → Ev (fun k => F k (i : Int)) r)
    (hno : ∀ i, i < n → ¬ Q i → Ev (fun k => F k (i : Int)) false) (r : Bool) (hr : r = true ↔ ∀ i, i < n → Q i) : Ev (fun k => F k ((0 : Nat) : Int)) r := by
  have main : ∀ d i, i + d = n → ∀ r : Bool, (r = true ↔ ∀ j, i ≤ j → j < n → Q j) → Ev (fun k => F k (i : Int)) r := by
    intro d
    induction d with
    | zero =>
      intro i hi r hr
      have : i = n := by omega
      subst this
      have : r = true := hr.2 (fun j h1 h2 => by omega)
      subst this
      exact Ev.step (fun k => hend k) (Ev.now _)
    | succ d ih =>
      intro i hi r hr
      by_cases h : Q i
      · refine hyes i (by omega) h r (ih (i + 1) (by omega) r ⟨fun e j h1 h2 => hr.1 e j (by omega) h2, fun e => hr.2 fun j h1 h2 => ?_⟩)
        by_cases e2 : j = i
        · rw [e2]; exact h
        · exact e j (by omega) h2
      · have : r = false := by
          cases r with
          | false => rfl
          | true => exact absurd (hr.1 rfl i (Nat.le_refl _) (by omega)) h
        subst this
        exact hno i (by omega) h
  exact main n 0 (by omega) r ⟨fun e j _ h2 => hr.1 e j h2, fun e => hr.2 fun j h => e j (Nat.zero_le _) h⟩
theorem same_ev (a b : List Int) (ha : a.length ≤ 1000000000) : Ev (fun k => privityref05_Same.f k a b) (decide (a = b)) := by
  by_cases hl : a.length = b.length
  · have h := allLoop (F := fun k i => privityref05_Same.l0 k a b i) (n := a.length) (Q := fun i => a.getD i 0 = b.getD i 0) (fun k => ?_) (fun i hi hq r h => ?_) (fun i hi hq => ?_) (decide (a = b)) ?_
    · refine h.congr fun k => ?_
      unfold privityref05_Same.f
      rw [if_pos (by omega)]; rfl
    · simp only [privityref05_Same.l0]
      rw [if_neg (by omega)]
    · refine Ev.step (fun k => ?_) h
      simp only [privityref05_Same.l0]
      rw [if_pos (by omega), if_pos (by omega), if_pos (by omega), rd_nat, rd_nat, if_pos hq, wnat (by omega)]
    · refine Ev.step (fun k => ?_) (Ev.now _)
      simp only [privityref05_Same.l0]
      rw [if_pos (by omega), if_pos (by omega), if_pos (by omega), rd_nat, rd_nat, if_neg hq]
    · rw [decide_eq_true_iff]
      refine ⟨fun e i _ => by rw [e], fun h => list_ext_getD hl fun i => ?_⟩
      by_cases hi : i < a.length
      · exact h i hi
      · rw [getD_out a i (by omega), getD_out b i (by omega)]
  · have : decide (a = b) = false := decide_eq_false fun e => hl (by rw [e])
    rw [this]
    refine Ev.congr (fun k => ?_) (Ev.now _)
    unfold privityref05_Same.f
    rw [if_neg (by omega)]
end Go.Proofs.YtakaonojfpkhnaaDoor.E
end
section
/-
  What the statements of chapter 12 share: valid parameters and coalitions, the extended coalition, the vanishing polynomial.
-/
namespace Go.Proofs.YtakaonojfpkhnaaDoor.E
open Go.RowKit Go.Proofs.YtakaonojfpkhnaaDoor.Pr Go.Proofs.YtakaonojfpkhnaaDoor.Hw Go.Proofs.YtakaonojfpkhnaaDoor.Pl Go.Proofs.YtakaonojfpkhnaaDoorW.PrintWords Go.Proofs.YtakaonojfpkhnaaDoorW.PrintLast Go.Proofs.YtakaonojfpkhnaaDoorW.PrintMore
set_option linter.unusedVariables false
set_option linter.unusedSimpArgs false

/-! Valid parameters and coalitions. -/
theorem val12_ev (p N T : Int) : Ev (fun k => privityref12_Valid.f k p N T) (val12B p N T) := by
  unfold privityref12_Valid.f
  refine ev_if (supported_ev p) (fun h => ?_) (fun h => ?_)
  · unfold val12B
    rw [h, Bool.true_and]
    refine Ev.congr (fun k => ?_) (Ev.now _)
    by_cases h1 : 4 ≤ N
    · rw [if_pos h1]
      by_cases h2 : N ≤ 13
      · rw [if_pos h2, wrapU_id (by omega) (by omega)]
        by_cases h3 : N < p
        · rw [if_pos h3]
          by_cases h4 : 1 ≤ T
          · rw [if_pos h4]
            by_cases h5 : T < N
            · rw [if_pos h5, w64' (by omega) (by omega)]
              by_cases h6 : 3 * T < N
              · rw [decide_eq_true h6, decide_eq_true ⟨h1, h2, h3, h4, h5, h6⟩]
              · rw [decide_eq_false h6, decide_eq_false fun h => h6 h.2.2.2.2.2]
            · rw [if_neg h5, decide_eq_false fun h => h5 h.2.2.2.2.1]
          · rw [if_neg h4, decide_eq_false fun h => h4 h.2.2.2.1]
        · rw [if_neg h3, decide_eq_false fun h => h3 h.2.2.1]
      · rw [if_neg h2, decide_eq_false fun h => h2 h.2.1]
    · rw [if_neg h1, decide_eq_false fun h => h1 h.1]
  · have : val12B p N T = false := by unfold val12B; rw [h]; rfl
    rw [this]; exact Ev.now _
theorem coa12_ev (p N T : Int) (l : List Int) : Ev (fun k => privityref12_ValidCoalition.f k p N T l) (coaB p N T l) := by
  unfold privityref12_ValidCoalition.f
  have hno : ∀ r, r = false → Ev (fun k => privityref12_ValidCoalition.j0 k l true p N T) r := fun r hr => by
    subst hr
    refine Ev.step (fun k => ?_) (Ev.now _)
    simp only [privityref12_ValidCoalition.j0]
    rw [if_pos trivial]
  refine ev_if (val12_ev p N T) (fun h => ?_) (fun h => hno _ (by unfold coaB; rw [h]; rfl))
  unfold coaB
  rw [h, Bool.true_and]
  unfold val12B at h
  rw [Bool.and_eq_true, decide_eq_true_eq] at h
  obtain ⟨_, a1, a2, a3, a4, a5, a6⟩ := h
  by_cases hl : (l.length : Int) > T
  · rw [decide_eq_true hl]
    exact hno _ (by rw [decide_eq_false (by omega)]; rfl)
  · rw [decide_eq_false hl, decide_eq_true (by omega), Bool.true_and]
    refine Ev.step (f := fun k => privityref12_ValidCoalition.l0 k l ((0 : Nat) : Int) p N T) (fun k => ?_) ?_
    · simp only [privityref12_ValidCoalition.j0]
      rw [if_neg (by simp)]; rfl
    · refine allQ (F := fun k i => privityref12_ValidCoalition.l0 k l i p N T) (n := l.length) (Q := IncAt N l) (e := true) ?_ (fun i hi hq r h => ?_) (fun i hi hq => ?_) (incB N l) (by unfold incB; rw [decide_eq_true_iff]; exact ⟨fun h => ⟨h, rfl⟩, fun h => h.1⟩)
      · refine Ev.step (fun k => ?_) (Ev.now _)
        simp only [privityref12_ValidCoalition.l0]
        rw [if_neg (by omega)]
      · obtain ⟨q1, q2, q3⟩ := hq
        refine Ev.step (fun k => ?_) h
        simp only [privityref12_ValidCoalition.l0]
        rw [if_pos (by omega), if_pos (by omega), rd_nat, if_neg (by omega), if_neg (by omega), wnat (by omega)]
        by_cases h0 : i = 0
        · rw [if_neg (by omega)]
        · rw [if_pos (by omega), w64' (n := (i : Int) - 1) (by omega) (by omega), if_pos (by omega), if_pos (by omega), show (i : Int) - 1 = ((i - 1 : Nat) : Int) from by omega, rd_nat, if_neg (by have := q3.resolve_left h0; omega)]
      · refine Ev.step (fun k => ?_) (Ev.now _)
        simp only [privityref12_ValidCoalition.l0]
        rw [if_pos (by omega), if_pos (by omega), rd_nat]
        by_cases q1 : l.getD i 0 < 1
        · rw [if_pos q1]
        · rw [if_neg q1]
          by_cases q2 : l.getD i 0 > N
          · rw [if_pos q2]
          · have h0 : i ≠ 0 := fun e => hq ⟨by omega, by omega, .inl e⟩
            rw [if_neg q2, if_pos (by omega), w64' (n := (i : Int) - 1) (by omega) (by omega), if_pos (by omega), if_pos (by omega), show (i : Int) - 1 = ((i - 1 : Nat) : Int) from by omega, rd_nat, if_pos (Int.not_lt.1 fun h => hq ⟨by omega, by omega, .inr h⟩)]
theorem inc_lt {N : Int} {l : List Int} (h : ∀ i, i < l.length → IncAt N l i) (i : Nat) : ∀ d, i + d + 1 < l.length → l.getD i 0 < l.getD (i + d + 1) 0
  | 0, hd => by
    have := (h (i + 1) hd).2.2.resolve_left (by omega)
    rwa [Nat.add_sub_cancel] at this
  | d + 1, hd => by
    have h1 := inc_lt h i d (by omega)
    have h2 := (h (i + d + 1 + 1) hd).2.2.resolve_left (by omega)
    rw [Nat.add_sub_cancel] at h2
    have : i + (d + 1) + 1 = i + d + 1 + 1 := by omega
    rw [this]; omega
/-- Valid parameters and a valid coalition. -/
structure Ok12 (p N T : Int) (bad : List Int) : Prop where
  hp : Supp p
  np : N < p
  coa : CoaB N T bad
theorem ok12 {p N T : Int} {l : List Int} (h : coaB p N T l = true) : Ok12 p N T l := by
  unfold coaB val12B incB at h
  rw [Bool.and_eq_true, Bool.and_eq_true, Bool.and_eq_true, decide_eq_true_eq, decide_eq_true_eq, decide_eq_true_eq] at h
  obtain ⟨⟨h1, a1, a2, a3, a4, a5, a6⟩, h2, h3⟩ := h
  have hin : ∀ x ∈ l, ∃ i, i < l.length ∧ l.getD i 0 = x := fun x hx => by
    obtain ⟨i, hi, rfl⟩ := List.getElem_of_mem hx
    exact ⟨i, hi, Hw.getD_in _ _ hi⟩
  refine ⟨supB_of h1, a3, ⟨a1, a2, a4, a6, h2, ?_, fun x hx => ?_⟩⟩
  · rw [List.nodup_iff_pairwise_ne]
    refine List.pairwise_iff_getElem.2 fun i j hi hj hij e => ?_
    have := inc_lt h3 i (j - i - 1) (by omega)
    rw [show i + (j - i - 1) + 1 = j from by omega, Hw.getD_in _ _ hi, Hw.getD_in _ _ hj, e] at this
    omega
  · obtain ⟨i, hi, rfl⟩ := hin x hx
    have := h3 i hi
    exact ⟨this.1, this.2.1⟩
/-! The vanishing polynomial. -/
theorem Ok12.van {p N T : Int} {bad : List Int} (h : Ok12 p N T bad) : VanOk p (extB N T bad) :=
  ⟨fun x hx => by have := extB_range h.coa x hx; have := h.np; exact ⟨by omega, by omega⟩, fun x hx => by have := extB_range h.coa x hx; omega, extB_nodup h.coa⟩
def vanZ (p N T : Int) (bad : List Int) : List Int := polL p (vanP (extB N T bad))
theorem vanZ_length {p N T : Int} {bad : List Int} (h : Ok12 p N T bad) : ((vanZ p N T bad).length : Int) = T + 1 := by
  unfold vanZ
  rw [van_len h.hp h.van]
  have := extB_length h.coa
  omega
theorem vanpol_ev {p N T : Int} {bad : List Int} (h : Ok12 p N T bad) : Ev (fun k => params_VanishingPolynomial.f k p N T bad) (vanZ p N T bad) := by
  have hp := h.hp
  have hc := h.coa
  have hn0 := hc.n0
  have hn1 := hc.n1
  have hlen := hc.len
  have ht := hc.t1
  have hel := extB_length hc
  have hext : params_ExtendCoalition.f p N T bad = some (extB N T bad) := by
    unfold params_ExtendCoalition.f
    rw [if_pos (by omega), if_pos (by omega), if_pos (by omega), if_pos]
    · rfl
    · refine List.all_eq_true.2 fun x hx => ?_
      have := hc.rng x hx
      rw [Bool.and_eq_true, decide_eq_true_eq, decide_eq_true_eq]; omega
  unfold params_VanishingPolynomial.f
  obtain ⟨e, he⟩ : ∃ e, e = extB N T bad := ⟨_, rfl⟩
  have hv := h.van
  have hr := extB_range hc
  unfold vanZ
  rw [← he] at hext hel hv hr ⊢
  refine ev_now_bind hext ?_
  have hmain := up (Q := fun i => Ev (fun k => params_VanishingPolynomial.l0 k (vanP (e.take i)) e (e.length : Int) (i : Int) p N T) (polL p (vanP e))) (n := e.length) ?_ fun i hi h => ?_
  · exact hmain
  · rw [List.take_length]
    refine Ev.step (f := fun k => (interpolate_Polynomial.f p (vanP e)).bind fun bt => some bt.1) (fun k => ?_) ?_
    · simp only [params_VanishingPolynomial.l0]
      rw [if_neg (by omega)]
    · refine ev_now_bind (ipol_eq hp (vanP_ok hp hv) (by rw [vanP_length]; omega)) ?_
      rw [if_pos (vanP_nd hp hv)]
      exact Ev.now _
  · have e1 : vanP (e.take (i + 1)) = vanP (e.take i) ++ [⟨e.getD i 0, 0⟩] := by
      have e2 : e.take (i + 1) = e.take i ++ [e.getD i 0] := by
        rw [List.take_add_one, List.getElem?_eq_getElem hi, Hw.getD_in _ _ hi]; rfl
      unfold vanP
      rw [e2, List.map_append]; rfl
    rw [e1] at h
    have hx := hr (e.getD i 0) (by rw [Hw.getD_in _ _ hi]; exact List.getElem_mem _)
    refine Ev.step (fun k => ?_) h
    simp only [params_VanishingPolynomial.l0]
    rw [if_pos (by omega), if_pos (by omega), if_pos (by omega), if_pos (by rw [vanP_length, List.length_take]; omega), rd_nat, wrapU_id (by omega) (by omega), wnat (by omega)]
theorem in_ev (l : List Int) (x : Int) (hl : l.length ≤ 1000) : Ev (fun k => privityref12_In.f k l x) (decide (x ∈ l)) := by
  unfold privityref12_In.f
  by_cases hx : x ∈ l
  · rw [decide_eq_true hx]
    obtain ⟨i, hi, e⟩ := List.getElem_of_mem hx
    refine up (Q := fun j => Ev (fun k => privityref12_In.l0 k l x (j : Int)) true) (n := i) ?_ fun j hj h => ?_
    · refine Ev.step (fun k => ?_) (Ev.now _)
      simp only [privityref12_In.l0]
      rw [if_pos (by omega), if_pos (by omega), rd_nat, Hw.getD_in _ _ hi, if_pos e]
    · by_cases he : l.getD j 0 = x
      · refine Ev.step (fun k => ?_) (Ev.now _)
        simp only [privityref12_In.l0]
        rw [if_pos (by omega), if_pos (by omega), rd_nat, if_pos he]
      · refine Ev.step (fun k => ?_) h
        simp only [privityref12_In.l0]
        rw [if_pos (by omega), if_pos (by omega), rd_nat, if_neg he, wnat (by omega)]
  · rw [decide_eq_false hx]
    refine up (Q := fun j => Ev (fun k => privityref12_In.l0 k l x (j : Int)) false) (n := l.length) ?_ fun j hj h => ?_
    · refine Ev.step (fun k => ?_) (Ev.now _)
      simp only [privityref12_In.l0]
      rw [if_neg (by omega)]
    · have he : l.getD j 0 ≠ x := fun e => hx (by rw [← e, Hw.getD_in _ _ hj]; exact List.getElem_mem _)
      refine Ev.step (fun k => ?_) h
      simp only [privityref12_In.l0]
      rw [if_pos (by omega), if_pos (by omega), rd_nat, if_neg he, wnat (by omega)]
theorem rext_l0 (p N T : Int) (bad : List Int) (hl : bad.length ≤ 1000) (hN : N ≤ 13) : ∀ (n : Nat) (m lack : Int) (acc : List Int), 1 ≤ m → m + n = N + 1 → -1000 ≤ lack → lack ≤ 1000 → (acc.length : Int) + 1 ≤ m →
    Ev (fun k => privityref12_ExtendCoalition.l0 k bad lack acc m p N T) (acc ++ extL bad n m lack)
  | 0, m, lack, acc, h1, h2, _, _, _ => by
    refine Ev.step (fun k => ?_) (Ev.now _)
    simp only [privityref12_ExtendCoalition.l0]
    rw [if_neg (by omega), extL, List.append_nil]
  | n + 1, m, lack, acc, h1, h2, h3, h4, h5 => by
    have hw : wrap64 (m + 1) = m + 1 := w64' (by omega) (by omega)
    refine Ev.step (f := fun k => (privityref12_In.f k bad m).bind fun t412 => (if t412 = true then (if acc.length < 17592186044416 then (privityref12_ExtendCoalition.l0 k bad lack (acc ++ [m]) (wrap64 (m + 1)) p N T) else (none)) else (if lack > 0 then (if acc.length < 17592186044416 then (privityref12_ExtendCoalition.l0 k bad (wrap64 (lack - 1)) (acc ++ [m]) (wrap64 (m + 1)) p N T) else (none)) else (privityref12_ExtendCoalition.l0 k bad lack acc (wrap64 (m + 1)) p N T)))) (fun k => ?_) ?_
    · simp only [privityref12_ExtendCoalition.l0]
      rw [if_pos (by omega)]
    · refine ev_if (in_ev bad m hl) (fun h => ?_) (fun h => ?_)
      · rw [decide_eq_true_eq] at h
        refine ev_ite (fun _ => ?_) (fun h => absurd (show acc.length < 17592186044416 by omega) h)
        rw [hw, ext_yes h]
        have := rext_l0 p N T bad hl hN n (m + 1) lack (acc ++ [m]) (by omega) (by omega) h3 h4 (by rw [List.length_append]; simp only [List.length_cons, List.length_nil]; omega)
        rwa [List.append_assoc] at this
      · rw [decide_eq_false_iff_not] at h
        refine ev_ite (fun hk => ?_) (fun hk => ?_)
        · refine ev_ite (fun _ => ?_) (fun h => absurd (show acc.length < 17592186044416 by omega) h)
          rw [hw, ext_more h hk, w64' (n := lack - 1) (by omega) (by omega)]
          have := rext_l0 p N T bad hl hN n (m + 1) (lack - 1) (acc ++ [m]) (by omega) (by omega) (by omega) (by omega) (by rw [List.length_append]; simp only [List.length_cons, List.length_nil]; omega)
          rwa [List.append_assoc] at this
        · rw [hw, ext_skip h hk]
          exact rext_l0 p N T bad hl hN n (m + 1) lack acc (by omega) (by omega) h3 h4 (by omega)
theorem rext_ev {p N T : Int} {bad : List Int} (h : Ok12 p N T bad) : Ev (fun k => privityref12_ExtendCoalition.f k p N T bad) (extB N T bad) := by
  have h1 := h.coa.n0
  have h2 := h.coa.n1
  have h3 := h.coa.len
  have h4 := h.coa.t1
  unfold privityref12_ExtendCoalition.f
  rw [w64' (by omega) (by omega)]
  have := rext_l0 p N T bad (by omega) h2 N.toNat 1 (T - bad.length) [] (by omega) (by omega) (by omega) (by omega) (by simp)
  rwa [List.nil_append] at this
/-! The program's own functions, and the reference's. -/
theorem extP_eq (p : Int) {N : Int} (T : Int) {l : List Int} (h0 : 0 ≤ N) (h1 : N ≤ 13) (hl : l.length ≤ 1000) (hr : ∀ x ∈ l, 0 ≤ x ∧ x < 14) : params_ExtendCoalition.f p N T l = some (extB N T l) := by
  unfold params_ExtendCoalition.f
  rw [if_pos (by omega), if_pos (by omega), if_pos (by omega), if_pos]
  · rfl
  · refine List.all_eq_true.2 fun x hx => ?_
    have := hr x hx
    rw [Bool.and_eq_true, decide_eq_true_eq, decide_eq_true_eq]; exact this
theorem Ok12.r14 {p N T : Int} {bad : List Int} (h : Ok12 p N T bad) : ∀ x ∈ bad, 0 ≤ x ∧ x < 14 := fun x hx => by have := h.coa.rng x hx; have := h.coa.n1; omega
theorem Ok12.len {p N T : Int} {bad : List Int} (h : Ok12 p N T bad) : bad.length ≤ 13 ∧ (extB N T bad).length ≤ 13 := by
  have h1 := h.coa.n0
  have h2 := h.coa.n1
  have h3 := h.coa.len
  have h4 := h.coa.t1
  have h5 := extB_length h.coa
  omega
theorem Ok12.extP {p N T : Int} {bad : List Int} (h : Ok12 p N T bad) : params_ExtendCoalition.f p N T bad = some (extB N T bad) := by
  have h1 := h.coa.n0
  exact extP_eq p T (by omega) h.coa.n1 (by have := h.len; omega) h.r14
/-- The reference's product of factors. -/
theorem rvan_l0 {p : Int} (hp : Supp p) (N T : Int) (l : List Int) (hl : l.length ≤ 1000) (hr : ∀ x ∈ l, Res p x ∧ x ≠ 0) : ∀ (d i : Nat) (f : List Int), i + d = l.length → (∀ x ∈ f, Res p x) → f.length ≤ i + 1 →
    Ev (fun k => privityref12_VanishingPolynomial.l0 k f l (i : Int) p N T) ((l.drop i).foldl (vanStep p) f)
  | 0, i, f, h, hf, hfl => by
    refine Ev.step (fun k => ?_) (Ev.now _)
    simp only [privityref12_VanishingPolynomial.l0]
    rw [if_neg (by omega), List.drop_of_length_le (by omega)]; rfl
  | d + 1, i, f, h, hf, hfl => by
    have hi : i < l.length := by omega
    obtain ⟨hx, hx0⟩ := hr l[i] (List.getElem_mem hi)
    have hb := hp.bd
    have hw : IntKind.u64.wrap (rd l (i : Int)) = l[i] := by
      rw [rd_nat, Hw.getD_in _ _ hi]
      have h1 := hx.1
      have h2 := hx.2
      exact wrapU_id (by omega) (by omega)
    have hinv : Res p (invp p l[i]) := by unfold invp; exact Res.mod hp _
    have hone : Res p 1 := ⟨by omega, by omega⟩
    have hstep := rvan_l0 hp N T l hl hr d (i + 1) (vanStep p f l[i]) (by omega) (vanStep_res hp _ _) (Nat.le_trans (vanStep_length _ _ _) (by omega))
    have e : (l.drop i).foldl (vanStep p) f = (l.drop (i + 1)).foldl (vanStep p) (vanStep p f l[i]) := by rw [List.drop_eq_getElem_cons hi]; rfl
    rw [e]
    refine Ev.step (f := fun k => (privityref01_Inverse.f k p l[i]).bind fun bt => ((privityref01_Neg.f p bt.1).bind fun t => ((privityref04_Mul.f k p f (([1, t] : List Int))).bind fun u => (privityref12_VanishingPolynomial.l0 k u l ((i + 1 : Nat) : Int) p N T)))) (fun k => ?_) ?_
    · simp only [privityref12_VanishingPolynomial.l0]
      rw [if_pos (by omega), if_pos (by omega), hw, wnat (by omega)]
    · refine Ev.bind (rinv_ev hp hx hx0) (ev_now_bind (rneg_eq hp hinv) (Ev.bind (rmulL_ev hp hf ?_ (by omega) (by simp)) hstep))
      intro x hm
      simp only [List.mem_cons, List.not_mem_nil, or_false] at hm
      rcases hm with rfl | rfl
      · exact hone
      · exact Res.mod hp _
theorem rvan_ev {p N T : Int} {bad : List Int} (h : Ok12 p N T bad) : Ev (fun k => privityref12_VanishingPolynomial.f k p N T bad) (vanZ p N T bad) := by
  have hp := h.hp
  have hb := hp.bd
  have hnp := h.np
  unfold privityref12_VanishingPolynomial.f
  refine Ev.bind (rext_ev h) ?_
  have := rvan_l0 hp N T (extB N T bad) (by have := h.len; omega) (fun x hx => by have := extB_range h.coa x hx; exact ⟨⟨by omega, by omega⟩, by omega⟩) (extB N T bad).length 0 [1] (by omega) (fun x hm => by
    simp only [List.mem_cons, List.not_mem_nil, or_false] at hm
    subst hm; exact ⟨by omega, by omega⟩) (by simp)
  rw [List.drop_zero, vanFold_eq hp h.van] at this
  exact this
end Go.Proofs.YtakaonojfpkhnaaDoor.E
end
section
/-
  What the statements of chapter 12 share: the first check.
-/
namespace Go.Proofs.YtakaonojfpkhnaaDoor.E
open Go.RowKit Go.Proofs.YtakaonojfpkhnaaDoor.Pr Go.Proofs.YtakaonojfpkhnaaDoor.Hw Go.Proofs.YtakaonojfpkhnaaDoor.Pl Go.Proofs.YtakaonojfpkhnaaDoorW.PrintWords Go.Proofs.YtakaonojfpkhnaaDoorW.PrintLast Go.Proofs.YtakaonojfpkhnaaDoorW.PrintMore
set_option linter.unusedVariables false
set_option linter.unusedSimpArgs false

theorem awake12 : Ev (fun _ => privitylaw12_awake.f) true := Ev.now _
end Go.Proofs.YtakaonojfpkhnaaDoor.E
end
section
/-
  The roots of the vanishing polynomial among the parties' points are the points of the extended coalition.
-/
namespace Go.Proofs.YtakaonojfpkhnaaDoor.Pure
open Go.RowKit Go.Proofs.YtakaonojfpkhnaaDoor.Pr Go.Proofs.YtakaonojfpkhnaaDoor.Hw Go.Proofs.YtakaonojfpkhnaaDoor.E Go.Proofs.YtakaonojfpkhnaaDoor.Pl Go.Proofs.YtakaonojfpkhnaaDoorW.PrintWords Go.Proofs.YtakaonojfpkhnaaDoorW.PrintLast Go.Proofs.YtakaonojfpkhnaaDoorW.PrintMore
set_option linter.unusedVariables false
set_option linter.unusedSimpArgs false

theorem roots_l0 {p N T : Int} {bad : List Int} (h : Ok12 p N T bad) : ∀ (n : Nat) (m : Int), 1 ≤ m → m + n = N + 1 → Ev (fun k => privitylaw12_ParamsVanishingPolynomialRoots.l0 k (vanZ p N T bad) (extB N T bad) m p N T) true
  | 0, m, h1, h2 => by
    refine Ev.step (fun k => ?_) (Ev.now _)
    simp only [privitylaw12_ParamsVanishingPolynomialRoots.l0]
    rw [if_neg (by omega)]
  | n + 1, m, h1, h2 => by
    have hp := h.hp
    have hb := hp.bd
    have a0 := h.coa.n0
    have a1 := h.coa.n1
    have a5 := h.len
    have a6 := h.np
    have a7 := vanZ_length h
    have a8 := h.coa.t1
    have hw : wrap64 (m + 1) = m + 1 := w64' (by omega) (by omega)
    have hu : IntKind.u64.wrap m = m := wrapU_id (by omega) (by omega)
    have hm : Res p m := ⟨by omega, by omega⟩
    have ih := roots_l0 h n (m + 1) (by omega) (by omega)
    have he : (evI p m (vanZ p N T bad) == 0) = decide (m ∈ extB N T bad) := by
      by_cases hx : m ∈ extB N T bad
      · rw [decide_eq_true hx]; exact beq_iff_eq.2 (van_root hp h.van m hx)
      · rw [decide_eq_false hx]; exact beq_eq_false_iff_ne.2 fun e => hx (van_only hp h.van hm (by omega) e)
    refine Ev.step (f := fun k => (poly_Eval.f k p (vanZ p N T bad) m).bind fun t427 => ((privityref12_In.f k (extB N T bad) m).bind fun t428 => (if ((t427 == 0) != t428) = true then (some false) else (privitylaw12_ParamsVanishingPolynomialRoots.l0 k (vanZ p N T bad) (extB N T bad) (wrap64 (m + 1)) p N T)))) (fun k => ?_) ?_
    · simp only [privitylaw12_ParamsVanishingPolynomialRoots.l0]
      rw [if_pos (by omega), hu]
    · refine Ev.bind (eval_ev hp hm (vanZ p N T bad) (van_res hp h.van) (by omega)) (Ev.bind (in_ev (extB N T bad) m (by omega)) ?_)
      rw [he, bne_self_eq_false, hw]
      exact Ev.congr (fun k => if_neg (by simp)) ih
theorem ParamsVanishingPolynomialRoots (p N T : Int) (bad : List Int) (wp : (Lit.int .u64 p).wf = true) (wN : (Lit.int .i64 N).wf = true) (wT : (Lit.int .i64 T).wf = true) (wb : ∀ x_ ∈ bad, (Lit.int .i64 x_).wf = true) : ∃ k, privitylaw12_ParamsVanishingPolynomialRoots.f k p N T bad = some true := by
  refine Ev.rounds (r := true) ?_
  unfold privitylaw12_ParamsVanishingPolynomialRoots.f
  refine ev_if awake12 (fun _ => ev_if (coa12_ev p N T bad) (fun h => ?_) fun _ => Ev.now _) (fun h => by cases h)
  have ok := ok12 h
  have hp := ok.hp
  have hb := hp.bd
  have hlen := ok.len
  have a0 := ok.coa.n0
  have a1 := ok.coa.n1
  have a2 := vanZ_length ok
  have a3 := ok.coa.t1
  have a4 := extB_length ok.coa
  have a5 := ok.coa.t0
  have hw : wrap64 (T + 1) = T + 1 := w64' (by omega) (by omega)
  refine Ev.bind (vanpol_ev ok) (Ev.bind (rvan_ev ok) ?_)
  have hs := same_ev (vanZ p N T bad) (vanZ p N T bad) (by omega)
  rw [decide_eq_true rfl] at hs
  refine ev_if hs (fun _ => ?_) (fun h => by cases h)
  have hlast : rd (vanZ p N T bad) T ≠ 0 := by
    have h1 : rd (vanZ p N T bad) ((extB N T bad).length : Int) ≠ 0 := by rw [rd_nat]; exact van_last hp ok.van
    rwa [a4] at h1
  rw [hw]
  refine ev_ite (fun _ => ev_ite (fun _ => ev_ite (fun _ => ev_ite (fun e => absurd e hlast) fun _ => ?_) fun e => absurd (by omega) e) fun e => absurd (by omega) e) fun e => absurd a2 e
  refine Ev.bind (eval_ev hp (x := 0) ⟨by omega, by omega⟩ (vanZ p N T bad) (van_res hp ok.van) (by omega)) ?_
  have h0 : evI p 0 (vanZ p N T bad) = 1 := van_zero hp ok.van
  rw [h0]
  refine Ev.step (f := fun k => (params_ExtendCoalition.f p N T bad).bind fun t424 => (privitylaw12_ParamsVanishingPolynomialRoots.l0 k (vanZ p N T bad) t424 1 p N T)) (fun k => ?_) (ev_now_bind ok.extP (roots_l0 ok N.toNat 1 (by omega) (by omega)))
  simp only [privitylaw12_ParamsVanishingPolynomialRoots.j0]
  rw [if_neg (by simp)]
end Go.Proofs.YtakaonojfpkhnaaDoor.Pure
end
section
/-
  What came in, opened: numbers, bools, rows and structs of them, to any depth.
-/
namespace Go.Proofs.YtakaonojfpkhnaaDoor.Op
open Go.RowKit Go.Proofs.YtakaonojfpkhnaaDoorW.PrintWords
set_option linter.unusedVariables false

/-- What is read of a type's value is a value of d, and Q holds of it. -/
def OpenK {α : Type} (P : Program) (t : TypeId) (d : Kd α) (Q : α → Prop) : Prop :=
  ∀ {H : Type} {enc : TypeId × Value → H} {w : World} {base : Nat} {sp : Nat → Bool} {hd : Bool} {fuel : Nat} {cs : List Value} {x : DataW H × List MemPlace}, DataW.trod enc P w base sp hd fuel t cs = some x → ∃ v : α, d.K w v cs ∧ Q v
theorem openInt {P : Program} {t : TypeId} {k : IntKind} (ht : P.underlying t = some (.int k)) : OpenK P t (Kd.int k) (fun n => (Lit.int k n).wf = true) := by
  intro H enc w base sp hd fuel cs x h
  obtain ⟨n, rfl, _, hw⟩ := DataW.trod_int ht h
  exact ⟨n, rfl, hw⟩
theorem exists_list {α : Type} {R : Nat → α → Prop} : ∀ (n : Nat), (∀ i, i < n → ∃ v, R i v) → ∃ l : List α, l.length = n ∧ ∀ i v, l[i]? = some v → R i v
  | 0, _ => ⟨[], rfl, fun i v h => by simp at h⟩
  | n + 1, h => by
    obtain ⟨l, hl, hr⟩ := exists_list n (fun i hi => h i (by omega))
    obtain ⟨v, hv⟩ := h n (by omega)
    refine ⟨l ++ [v], by simp [hl], fun i u hu => ?_⟩
    by_cases hi : i < n
    · rw [List.getElem?_append_left (by omega)] at hu
      exact hr i u hu
    · rw [List.getElem?_append_right (by omega)] at hu
      by_cases h0 : i - l.length = 0
      · rw [h0] at hu
        simp only [List.getElem?_cons_zero, Option.some.injEq] at hu
        rw [← hu, show i = n from by omega]; exact hv
      · rw [List.getElem?_eq_none (by simp; omega)] at hu; cases hu
theorem openSlice {α : Type} {P : Program} {t e : TypeId} {d : Kd α} {Q : α → Prop} (ht : P.underlying t = some (.slice e)) (hc : P.cellsOf e = d.sz) (he : OpenK P e d Q) : OpenK P t (Kd.slice e d) (fun l => ∀ x ∈ l, Q x) := by
  intro H enc w base sp hd fuel cs x h
  rcases DataW.trod_slice ht h with ⟨rfl, _⟩ | ⟨a, len, cap, elems, rest, n, _, rfl, _, _, hlc, hm, hlen, hel, _, _⟩
  · exact ⟨[], ⟨none, 0, rfl, Nat.le_refl _, rfl, Nat.zero_le _, fun h => absurd h (Nat.lt_irrefl 0)⟩, fun x hx => by cases hx⟩
  · have each : ∀ i, i < len → ∃ v, (∃ c, c.length = d.sz ∧ d.K w v c ∧ ∀ j u, c[j]? = some u → w.cell? (a.add (i * d.sz + j)) = some u) ∧ Q v := by
      intro i hi
      have h1 := hel i hi
      rw [List.getElem?_eq_getElem (by omega), hc] at h1
      obtain ⟨c, hcs, htr⟩ := Option.bind_eq_some_iff.1 h1
      obtain ⟨v, hk, hq⟩ := he htr
      refine ⟨v, ⟨c, d.K_len hk, hk, fun j u hu => ?_⟩, hq⟩
      have h2 := World.cells?_some hcs
      have hj := (List.getElem?_eq_some_iff.1 hu).1
      have h3 := h2.2.2 j (by rw [← d.K_len hk]; exact hj)
      rw [hu] at h3
      rw [← h3, ← Addr.add_add]
    obtain ⟨l, hl, hr⟩ := exists_list len each
    refine ⟨l, ⟨some a, cap, by rw [hl], by omega, rfl, by rw [hl]; simp only [maxLen] at hm; omega, fun _ => ⟨a, rfl, fun j p hj => (hr j p hj).1⟩⟩, fun x hx => ?_⟩
    obtain ⟨i, hi, rfl⟩ := List.getElem_of_mem hx
    exact (hr i _ (List.getElem?_eq_getElem hi)).2
/-- A struct's fields. -/
theorem openFields {P : Program} {H : Type} {enc : TypeId × Value → H} {w : World} {base : Nat} {sp : Nat → Bool} {hd : Bool} {fuel : Nat} {t : TypeId} {cs : List Value} {x : DataW H × List MemPlace} {fs : Array Field} (ht : P.underlying t = some (.struct fs))
    (h : DataW.trod enc P w base sp hd fuel t cs = some x) : cs.length = P.cellsOf t ∧ ∀ (i : Nat) (f : Field), fs[i]? = some f → ∃ n y, DataW.trod enc P w base sp hd n f.type ((cs.drop f.offset).take (P.cellsOf f.type)) = some y := by
  obtain ⟨xs, n, _, _, hl, hlen, hf⟩ := DataW.trod_struct ht h
  refine ⟨hl, fun i f hi => ?_⟩
  have h1 := hf i f hi
  have h2 : i < fs.size := (Array.getElem?_eq_some_iff.1 hi).1
  rw [List.getElem?_eq_getElem (by omega)] at h1
  exact ⟨n, _, h1⟩
end Go.Proofs.YtakaonojfpkhnaaDoor.Op
end
section
/- The row of the law ParamsVanishingPolynomialRoots, out of its plain law and the walk. -/
namespace Go.Proofs.YtakaonojfpkhnaaDoor.paramsVanishingPolynomialRoots
open Go.Proofs.YtakaonojfpkhnaaDoor.Hw Go.ChangeShapes Go.WideShapes Go.ChangeAt Go.RowKit Go.Proofs.YtakaonojfpkhnaaDoor.Pr Go.Proofs.YtakaonojfpkhnaaDoorW.PrintWords
set_option linter.unusedVariables false
theorem own : ownKnob Tryd.prog.godebug = none := by kernel_rfl
theorem laidOut : laidOutB Tryd.prog = true := by kernel_rfl
theorem arr3 (cs : Array Value) (h : cs.size = 3) : ∃ c0_ c1_ c2_, cs = #[c0_, c1_, c2_] := by
  obtain ⟨l_⟩ := cs
  match l_, h with
  | [c0_, c1_, c2_], _ => exact ⟨_, _, _, rfl⟩
set_option maxHeartbeats 4000000 in
set_option maxRecDepth 100000 in
theorem lifted (os : Os) (started : os.Started) (H : Type) (enc : TypeId × Value → H) :
    ReturnsInHanded {} Tryd.checked os 8 .any (fun w args => (Rows.paramsVanishingPolynomialRootsSpec.pre enc Tryd.prog Tryd.f8 [] false w args ∧ laidMetH Tryd.prog laidx w) ∧ sizedMet enc Tryd.prog Tryd.f8 (OpenSpec.ofChange Rows.paramsVanishingPolynomialRootsSpec) false w args) (Rows.paramsVanishingPolynomialRootsSpec.post enc Tryd.prog Tryd.f8 false true false false) := by
  refine returnsInHanded_of_change_and (C := Tryd.checked) (X := fun w _ => laidMetH Tryd.prog laidx w) (fun _ _ _ hh h => h.of_heap hh) own started (by kernel_rfl) Tryd.func8
    (ChangeSpec.witness_shaped (enc := enc) (C := Tryd.checked) (os := os) (X := fun w _ => laidMetH Tryd.prog laidx w) false (World.doorLaid Tryd.prog 400 os) #[.agg #[.int .u64 0, .int .i64 0, .int .i64 0], .slice none 0 0] 8 rfl (World.shaped_of_RefB (by kernel_rfl) (by kernel_rfl)) (by kernel_rfl) (by kernel_rfl) (by kernel_rfl) (door_met os _)) ?_
  intro W base args ds gs before hval0 hW hcnd hsz0 hL0 _
  have hX_ := of_laid hL0
  clear hL0
  have hval : ∀ (j : Nat) t v, Tryd.f8.params[j]? = some t → args[j]? = some v → Value.okWide Tryd.prog W .any base t v := hval0
  have hW' := hW
  obtain ⟨p, q, hA0, hV, rfl, hfz, hnd⟩ := hW
  have hA : DataW.TrodAll enc Tryd.prog W 0 (fun _ => true) true Tryd.f8.params.toList args.toList ds p := hA0
  rw [Tryd.params8] at hA hval
  obtain ⟨v0, vs0, d0, ds0, p0, q0, hargs, rfl, rfl, h0, r0⟩ := trodAll_cons hA
  obtain ⟨v1, vs1, d1, ds1, p1, q1, rfl, rfl, rfl, h1, r1⟩ := trodAll_cons r0
  obtain ⟨rfl, rfl, rfl⟩ := trodAll_nil r1
  obtain rfl : args = #[v0, v1] := by cases args; simp_all
  obtain ⟨rfl, rfl⟩ := trodVars_none hV
  have k0 := h0
  have lt0 : ∀ x ∈ p0, x.block < W.heap.size := by obtain ⟨m, hm⟩ := k0; exact DataW.trod_lt m _ _ _ hm
  obtain ⟨cs0, rfl, hs0⟩ := okWide_struct Tryd.underlying24 (hval 0 24 v0 rfl rfl)
  have hN0 : Tryd.prog.cellsOf 24 = 3 := by kernel_rfl
  rw [hN0] at hs0
  obtain ⟨x0_0, x0_1, x0_2, rfl⟩ := arr3 cs0 hs0
  obtain ⟨fu0, hf0⟩ := h0
  have hg0 : DataW.trod enc Tryd.prog W 0 (fun _ => true) true fu0 24 [x0_0, x0_1, x0_2] = some (d0, p0) := hf0
  have f0 := (Op.openFields Tryd.underlying24 hg0).2
  obtain ⟨n0_0, y0_0, e0_0⟩ := f0 0 _ rfl
  have b0_0 : DataW.trod enc Tryd.prog W 0 (fun _ => true) true n0_0 22 [x0_0] = some y0_0 := e0_0
  obtain ⟨a0_0, e0_0, w0_0⟩ := (Op.openInt (k := .u64) Tryd.underlying22) b0_0
  cases e0_0
  obtain ⟨n0_1, y0_1, e0_1⟩ := f0 1 _ rfl
  have b0_1 : DataW.trod enc Tryd.prog W 0 (fun _ => true) true n0_1 3 [x0_1] = some y0_1 := e0_1
  obtain ⟨a0_1, e0_1, w0_1⟩ := (Op.openInt (k := .i64) Tryd.underlying3) b0_1
  cases e0_1
  obtain ⟨n0_2, y0_2, e0_2⟩ := f0 2 _ rfl
  have b0_2 : DataW.trod enc Tryd.prog W 0 (fun _ => true) true n0_2 3 [x0_2] = some y0_2 := e0_2
  obtain ⟨a0_2, e0_2, w0_2⟩ := (Op.openInt (k := .i64) Tryd.underlying3) b0_2
  cases e0_2
  have k1 := h1
  have lt1 : ∀ x ∈ p1, x.block < W.heap.size := by obtain ⟨m, hm⟩ := k1; exact DataW.trod_lt m _ _ _ hm
  obtain ⟨a1, len1, cap1, rfl⟩ := okWide_slice Tryd.underlying25 (hval 1 25 v1 rfl rfl)
  obtain ⟨fu1, hf1⟩ := h1
  obtain ⟨z1, ⟨A1, c1, e1, hc1, g1⟩, w1⟩ := (Op.openSlice (d := (Kd.int .i64)) Tryd.underlying25 (by kernel_rfl) (Op.openInt (k := .i64) Tryd.underlying3)) hf1
  cases e1
  clear hA0 hval0 hsz0
  obtain ⟨kk, hk⟩ := Pure.ParamsVanishingPolynomialRoots a0_0 a0_1 a0_2 z1 w0_0 w0_1 w0_2 w1
  refine (privitylaw12_ParamsVanishingPolynomialRoots.calls kk a0_0 a0_1 a0_2 _ _ z1 true W g1 hc1 rfl hX_ hk).mono fun e W' ⟨he, bel⟩ => ?_
  subst he
  exact ⟨_, rfl, _, _, _, [], _, [], hW', trodAll_mk1 (shut_bool Tryd.underlying4 _), (trodAll_cons_mk (Below.trod laidOut (by kernel_rfl) (of_decide_eq_true (by kernel_rfl)) k0 bel lt0) (trodAll_cons_mk (Below.trod laidOut (by kernel_rfl) (of_decide_eq_true (by kernel_rfl)) k1 bel lt1) trodAll_mk0)), rfl, bel.frame _, fun h => by cases h⟩
theorem over : Rows.paramsVanishingPolynomialRootsRow.holds Tryd.pinned (OpenSpec.ofChange Rows.paramsVanishingPolynomialRootsSpec) :=
  OpenClaim.holds_of_wide 8 Tryd.f8 rfl rfl rfl rfl rfl rfl rfl ⟨rfl, rfl, rfl, rfl, rfl⟩ rfl rfl rfl rfl rfl (by kernel_rfl) Tryd.func8 (by kernel_rfl)
    (of_decide_eq_true (by kernel_rfl)) (by unfold Func.isWrapper; first | (rw [if_pos (by decide +kernel)]; kernel_rfl) | (rw [if_neg (by decide +kernel)]; exact ⟨rfl, rfl⟩))
    (fun os started H enc _ => lifted os started H enc)
theorem proved : Rows.ParamsVanishingPolynomialRootsSaid := over
#print axioms proved
end Go.Proofs.YtakaonojfpkhnaaDoor.paramsVanishingPolynomialRoots
namespace Go.Proofs.YtakaonojfpkhnaaDoor
/-- The row, under a short name, for the claim. -/
theorem paramsVanishingPolynomialRoots_holds : Rows.ParamsVanishingPolynomialRootsCardSaid :=
  Claim7.holds_tied_plain_at .later [] [.data] true (true, "e89e54b610bb618419dd9e432a54789086f81ccddccae2ed0cfdda57de810b85") false
    paramsVanishingPolynomialRoots.proved (fun _ h => by cases h) (by kernel_rfl) (fun _ h => by cases h) paramsVanishingPolynomialRoots_row_tie rfl ⟨rfl, rfl⟩ (by kernel_rfl) rfl
    (fun f fn hf hfn => by
      obtain rfl : f = 8 := Option.some.inj ((show Tryd.prog.funcNamed "privity/privitylaw12.ParamsVanishingPolynomialRoots" = some 8 by kernel_rfl).symm.trans hf) |>.symm
      obtain rfl : fn = Tryd.f8 := (Option.some.inj (Tryd.func8.symm.trans hfn)).symm
      exact ⟨by kernel_rfl, fun j t ht => by
        rw [Tryd.params8] at ht
        have hm : t ∈ [24, 25] := by simpa using Array.mem_of_getElem? ht
        have hall : ([24, 25].all fun u => !Tryd.prog.wantsStandIn u) = true := by kernel_rfl
        exact (show Tryd.prog.wantsStandIn t = false by simpa using List.all_eq_true.1 hall t hm)⟩)
    (by kernel_rfl)
end Go.Proofs.YtakaonojfpkhnaaDoor
end
