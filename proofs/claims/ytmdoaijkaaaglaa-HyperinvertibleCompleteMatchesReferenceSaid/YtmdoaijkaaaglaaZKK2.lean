/- Part 2 of the proof's texts, joined in build order. -/
import Derived.Test.YtmdoaijkaaaglaaZKK1
import Derived.Deep.RegionHeld3
set_option linter.unusedVariables false
set_option linter.unusedSimpArgs false
section
namespace Go.Proofs.Ytmdoaijkaaaglaa.Hw
open Go.RowKit Go.Proofs.Ytmdoaijkaaaglaa.Pr Go.Proofs.YtmdoaijkaaaglaaW.PrintWords Go.Proofs.YtmdoaijkaaaglaaW.PrintLast Go.Proofs.YtmdoaijkaaaglaaW.PrintMore Go.Proofs.Ytmdoaijkaaaglaa.E
def lagStep (p a x : Int) (s : Int × Int) (o : Int) : Int × Int := (s.1 * ((a - o) % p) % p,s.2 * ((x - o) % p) % p)
def lagS (p a : Int) (xs : List Int) (i : Nat) : Int × Int := (othersN xs i xs.length).foldl (lagStep p a (rd xs i)) (1,1)
def lagW (p a : Int) (xs : List Int) (i : Nat) : Int := (lagS p a xs i).1 * invp p (lagS p a xs i).2 % p
def lagL (p a : Int) (xs : List Int) : Nat → List Int
 | 0 => []
 | n + 1 => lagL p a xs n ++ [lagW p a xs n]
theorem lagL_length (p a : Int) (xs : List Int) : ∀ n,(lagL p a xs n).length = n
 | 0 => rfl
 | n + 1 => by rw [lagL,List.length_append,lagL_length p a xs n];rfl
theorem lag_fold {p : Int} (hp : Supp p) {a x : Int} (hx : Res p x) : ∀ (l : List Int) (s : Int × Int),(∀ o ∈ l,Res p o) → Res p s.1 → Res p s.2 →
  Res p (l.foldl (lagStep p a x) s).1 ∧ Res p (l.foldl (lagStep p a x) s).2 ∧ ((∀ o ∈ l,x ≠ o) → s.2 ≠ 0 → (l.foldl (lagStep p a x) s).2 ≠ 0)
 | [],s,_,h1,h2 => ⟨h1,h2,fun _ h => h⟩
 | o :: l,s,hl,h1,h2 => by
  have ih := lag_fold hp (a := a) hx l (lagStep p a x s o) (fun y hy => hl y (List.mem_cons_of_mem _ hy)) (Res.mod hp _) (Res.mod hp _)
  refine ⟨ih.1,ih.2.1,fun hne h0 => ih.2.2 (fun y hy => hne y (List.mem_cons_of_mem _ hy)) ?_⟩
  exact mul_ne' hp h2 h0 (Res.mod hp _) (sub_ne' hp hx (hl o (by simp)) (hne o (by simp)))
theorem othersN_mem {xs : List Int} {i : Nat} : ∀ {n : Nat} {o : Int},o ∈ othersN xs i n → ∃ j,j < n ∧ j ≠ i ∧ o = rd xs j
 | 0,o,h => by cases h
 | n + 1,o,h => by
  unfold othersN at h
  split at h
  ·obtain ⟨j,h1,h2⟩ := othersN_mem h;exact ⟨j,by omega,h2⟩
  ·rcases List.mem_append.1 h with h|h
   ·obtain ⟨j,h1,h2⟩ := othersN_mem h;exact ⟨j,by omega,h2⟩
   ·exact ⟨n,by omega,by assumption,by simpa using h⟩
theorem lagS_ok {p : Int} (hp : Supp p) {a : Int} {xs : List Int} (hx : ∀ x ∈ xs,Res p x) (hn : xs.Nodup) (i : Nat) (hi : i < xs.length) : Res p (lagS p a xs i).1 ∧ Res p (lagS p a xs i).2 ∧ (lagS p a xs i).2 ≠ 0 := by
 have hb := hp.bd
 have h := lag_fold hp (a := a) (rd_res' hx i hi) (othersN xs i xs.length) (1,1) (fun o ho => by
  obtain ⟨j,h1,_,rfl⟩ := othersN_mem ho;exact rd_res' hx j h1) ⟨by omega,by omega⟩ ⟨by omega,by omega⟩
 refine ⟨h.1,h.2.1,h.2.2 (fun o ho => ?_) (by decide)⟩
 obtain ⟨j,h1,h2,rfl⟩ := othersN_mem ho
 rw [rd_nat,rd_nat,getD_in _ _ hi,getD_in _ _ h1]
 intro e
 rw [List.nodup_iff_pairwise_ne,List.pairwise_iff_getElem] at hn
 rcases Nat.lt_trichotomy i j with h3|h3|h3
 ·exact hn i j hi h1 h3 e
 ·exact h2 h3.symm
 ·exact hn j i h1 hi h3 e.symm
theorem alloc_size (w : World) (o : Obj) : (w.alloc o).heap.size = w.heap.size + 1 := Array.size_push _
structure LagI (wr : World) (bp ba : Nat) (p a x : Int) (s : Int × Int) (w : World) : Prop where
 hp : Box w bp p
 hn : Box w (wr.heap.size + 1) s.1
 ha : Box w ba a
 hd : Box w (wr.heap.size + 1 + 1) s.2
 hx : Box w wr.heap.size x
 r1 : Res p s.1
 r2 : Res p s.2
 below : Below wr.heap.size wr w
theorem lag_inner {p : Int} (hp : Supp p) (A : Option Addr) (c : Nat) (xs : List Int) (a : Int) (ha : Res p a) (hx : ∀ x ∈ xs,Res p x) (hl : xs.length ≤ 1099511627776) (bp ba n : Nat) (hn : n < xs.length) (wr : World) (hr : Kd.C (Kd.int .u64) wr A xs.length xs)
  (hbp : Box wr bp p) (hba : Box wr ba a) :
  Calls Try.prog 60 #[.slice A xs.length c,.int .i64 (n : Int),.func (.func 61) #[] #[.pointer (some ⟨bp,0,none⟩),.pointer (some ⟨wr.heap.size + 1,0,none⟩),.pointer (some ⟨ba,0,none⟩),.pointer (some ⟨wr.heap.size + 1 + 1,0,none⟩),.pointer (some ⟨wr.heap.size,0,none⟩)]]
   (((wr.alloc (Obj.cells #[Value.int IntKind.u64 (rd xs n)] 22)).alloc (Obj.cells #[Value.int IntKind.u64 1] 22)).alloc (Obj.cells #[Value.int IntKind.u64 1] 22))
   fun e w' => e = .returned (.tuple #[]) ∧ Aside0 (LagI wr bp ba p a (rd xs n) (lagS p a xs n) w') := by
 have hpb := hp.bd
 have lp := blk_lt hbp
 have la := blk_lt hba
 refine others_lag (LagI wr bp ba p a (rd xs n)) (lagStep p a (rd xs n)) bp (wr.heap.size + 1) ba (wr.heap.size + 1 + 1) wr.heap.size A c xs n (by omega) hl (fun s w' h => Kd.C_below hr h.below) ?_ (1,1) _ ?_
 ·intro s w' i hi hne h
  refine (lagc_calls hp h.r1 ha h.r2 (rd_res' hx n hn) (rd_res' hx i hi) bp (wr.heap.size + 1) ba (wr.heap.size + 1 + 1) wr.heap.size w' h.hp h.hn h.ha h.hd h.hx (by omega) (by omega) (by omega) (by omega) (by omega)).mono ?_
  rintro e w2 ⟨rfl,i1,i2,rfl⟩
  refine ⟨rfl,⟨?_,?_,?_,?_,?_,Res.mod hp _,Res.mod hp _,?_⟩⟩
  ·exact ((((h.hp.drewN i1).far (by omega) _).drewN i2).far (by omega) _)
  ·exact ((((h.hn.drewN i1).put _).drewN i2).far (by omega) _)
  ·exact ((((h.ha.drewN i1).far (by omega) _).drewN i2).far (by omega) _)
  ·exact ((((h.hd.drewN i1).far (by omega) _).drewN i2).put _)
  ·exact ((((h.hx.drewN i1).far (by omega) _).drewN i2).far (by omega) _)
  ·exact Below.setCell (pw_below_drewN (Below.setCell (pw_below_drewN h.below i1) (p := ⟨wr.heap.size + 1,0,none⟩) (Nat.le_add_right _ _) _) i2) (p := ⟨wr.heap.size + 1 + 1,0,none⟩) (Nat.le_add_right _ 2) _
 ·refine ⟨?_,?_,?_,?_,?_,⟨by omega,by omega⟩,⟨by omega,by omega⟩,below_alloc (below_alloc (below_alloc (Below.refl _ _) _) _) _⟩
  ·exact blk_alloc (blk_alloc (blk_alloc hbp _) _) _
  ·have h := blk_new (wr.alloc (Obj.cells #[Value.int IntKind.u64 (rd xs n)] 22)) (Obj.cells #[Value.int IntKind.u64 1] 22)
   rw [alloc_size] at h
   exact blk_alloc h _
  ·exact blk_alloc (blk_alloc (blk_alloc hba _) _) _
  ·have h := blk_new ((wr.alloc (Obj.cells #[Value.int IntKind.u64 (rd xs n)] 22)).alloc (Obj.cells #[Value.int IntKind.u64 1] 22)) (Obj.cells #[Value.int IntKind.u64 1] 22)
   rw [alloc_size,alloc_size] at h
   exact h
  ·exact blk_alloc (blk_alloc (blk_new wr _) _) _
set_option maxHeartbeats 2000000 in
set_option maxRecDepth 100000 in
theorem lag_walk {p : Int} (hp : Supp p) (A : Option Addr) (c : Nat) (xs : List Int) (a : Int) (ha : Res p a) (hx : ∀ x ∈ xs,Res p x) (hl : xs.length ≤ 12) (w : World) (hr : Kd.C (Kd.int .u64) w A xs.length xs) (hc : xs.length ≤ c) :
  Calls Try.prog 33 #[.int .u64 p,.slice A xs.length c,.int .u64 a] w fun e w' => ∃ v0_ : Value,e = .returned (.tuple #[v0_,.int .i64 (if xs.Nodup then 0 else 1)]) ∧ Kd.R (Kd.int .u64) 22 w' w.heap.size (fun _ => True) v0_ (if xs.Nodup then lagL p a xs xs.length else []) ∧ Below w.heap.size w w' := by
 have HR := Aside0.mk hr
 clear hr
 have hb1 : Below w.heap.size w (w.alloc (Obj.cells #[Value.int IntKind.u64 p] 22)) := below_alloc (Below.refl _ _) _
 have hb2 : Below w.heap.size w ((w.alloc (Obj.cells #[Value.int IntKind.u64 p] 22)).alloc (Obj.cells #[Value.int IntKind.u64 a] 22)) := below_alloc hb1 _
 have hbp0 : Box ((w.alloc (Obj.cells #[Value.int IntKind.u64 p] 22)).alloc (Obj.cells #[Value.int IntKind.u64 a] 22)) w.heap.size p := blk_alloc (blk_new w _) _
 have hba0 : Box ((w.alloc (Obj.cells #[Value.int IntKind.u64 p] 22)).alloc (Obj.cells #[Value.int IntKind.u64 a] 22)) (w.heap.size + 1) a := by
  have h := blk_new (w.alloc (Obj.cells #[Value.int IntKind.u64 p] 22)) (Obj.cells #[Value.int IntKind.u64 a] 22)
  rwa [show (w.alloc (Obj.cells #[Value.int IntKind.u64 p] 22)).heap.size = w.heap.size + 1 from alloc_size _ _] at h
 have HU := Aside0.mk (unlike_calls A c xs _ (Kd.C_below HR.out hb2) hc hl)
 have HB2 := Aside0.mk hb2
 have HBP := Aside0.mk hbp0
 have HBA := Aside0.mk hba0
 clear hb1 hb2 hbp0 hba0
 have HX := Aside0.mk hx
 clear hx
 by_cases hnd : xs.Nodup
 ·have hd : decide xs.Nodup = true := decide_eq_true hnd
  rw [if_pos hnd,if_pos hnd]
  have HND := Aside0.mk hnd
  clear hnd
  go_enter Try.func33,Try.ntmps33
  go_wp2_with (first|(go_at_call 59;(with_reducible refine HU.out.mono ?_);rintro e w1 ⟨rfl,hb3⟩;have HB3 := Aside0.mk (below_step HB2.out hb3);have HBP3 := Aside0.mk (show Box w1 w.heap.size p from blk_below HBP.out hb3);have HBA3 := Aside0.mk (show Box w1 (w.heap.size + 1) a from blk_below HBA.out hb3);clear hb3))
  clear hd
  go_loopg [8,18] xs.length (fun kq v8 v18 w' => ∃ (n : Nat),v18 = .int .i64 (n : Int) ∧ Aside0 (kq + n = xs.length) ∧ Aside0 (Kd.R (Kd.int .u64) 22 w' w.heap.size (fun k_ => w.heap.size + 2 ≤ k_) v8 (lagL p a xs n)) ∧ Aside0 (Box w' w.heap.size p ∧ Box w' (w.heap.size + 1) a) ∧ Aside0 (Below w.heap.size w w'))
  case atStart => exact ⟨0,rfl,⟨rfl⟩,⟨Kd.R_nil _ _ _ _ _⟩,⟨HBP3.out,HBA3.out⟩,HB3⟩
  case round =>
   clear HBP3 HBA3 HB3
   obtain ⟨n,rfl,HK,HO,HBx,HB⟩ := hrel
   by_cases hlt : n < xs.length
   ·have p1 : ((0 : Int) ≤ (n : Int)) = True := eq_true (by omega)
    have q1 : ((n : Int) < (xs.length : Int)) = True := eq_true (by omega)
    obtain ⟨ad,e1,hx⟩ := Kd.at_int HR.out (n : Int) (by omega) (by omega)
    cases e1
    replace hx := pw_cell_below HB.out hx
    rw [Int.toNat_natCast] at hx
    have hin := Aside0.mk (lag_inner hp (some ad) c xs a ha HX.out (by omega) w.heap.size (w.heap.size + 1) n hlt wr (Kd.C_below HR.out HB.out) HBx.out.1 HBx.out.2)
    obtain ⟨q1',q2',q3'⟩ := lagS_ok hp (a := a) HX.out HND.out n hlt
    obtain ⟨ko,hko⟩ := (over_ev hp q1' q2' q3').rounds
    have HKO := Aside0.mk hko
    obtain ⟨sn,hsn⟩ : ∃ y,y = (lagS p a xs n).1 := ⟨_,rfl⟩
    obtain ⟨sd,hsd⟩ : ∃ y,y = (lagS p a xs n).2 := ⟨_,rfl⟩
    rw [← hsn,← hsd] at HKO
    have HSN := Aside0.mk hsn
    have HSD := Aside0.mk hsd
    clear hko hsn hsd q1' q2' q3'
    have hlen : (lagL p a xs n).length = n := lagL_length p a xs n
    obtain ⟨y,hy⟩ : ∃ y,y = lagL p a xs n ++ [sn * invp p sd % p] := ⟨_,rfl⟩
    have HY := Aside0.mk hy
    have HLen := Aside0.mk hlen
    clear hy hlen
    go_wp2_with (first
     | (go_at_call 60;(with_reducible refine hin.out.mono ?_);rintro e w4 ⟨rfl,hI⟩;have b1 := (hI.out.hp).cell;have hsz := Aside0.mk (show w.heap.size + 2 ≤ w4.heap.size from blk_lt hI.out.ha);have HBp4 := Aside0.mk hI.out.hp;have HBa4 := Aside0.mk hI.out.ha;have b2 := (hI.out.hn).cell;rw [← HSN.out] at b2;have b3 := (hI.out.hd).cell;rw [← HSD.out] at b3;have HB4 := Aside0.mk (below_step HB.out hI.out.below);have HO4 := Aside0.mk (Kd.R_below HO.out hI.out.below))
     | (go_at_call 62;(with_reducible refine (interpolate_over.calls ko p sn sd (sn * invp p sd % p) _ HKO.out).mono ?_);rintro e w5 ⟨rfl,⟨nd,rfl⟩⟩)
     | ((with_reducible refine gate_builtin (b := .append) (xs := #[.tmp 27,.tmp 32]) rfl ?_);at_builtin;refine Kd.R_append (Kd.int .u64) (w0 := w) w.heap.size rfl (.tmp 27) (.tmp 32) 40 22 (.int .u64 0) 8 rfl Try.underlying40 info22 rfl (by decide) (by omega) u8 (lagL p a xs n) (sn * invp p sd % p) [.int .u64 (sn * invp p sd % p)] (fun k_ => w.heap.size + 2 ≤ k_) (fun _ => False) rfl rfl rfl (fun _ hk => hk.elim) (fun k hk => Nat.le_trans hsz.out hk) (Kd.R_drewN HO4.out nd) (pw_below_drewN HB4.out nd) (below_size (pw_below_drewN HB4.out nd)) (by rw [HLen.out];omega) ?_;intro v6 w6 ho6 hb6 hg6 ha6;rw [← HY.out] at ho6;have HO6 := Aside0.mk ho6;have HB6 := Aside0.mk hb6;have HG6 := Aside0.mk hg6;clear ho6 hb6 hg6 ha6))
    go_roundg (xs.length - (n + 1))
    case measure => have := HK.out;omega
    case rel =>
     have hne : ∀ b,b < w.heap.size + 2 → some b ≠ u8.ownBlock := fun b hb e => by have := HO.out.1 b e.symm;omega
     refine ⟨n + 1,by go_num,⟨by omega⟩,⟨?_⟩,⟨?_,?_⟩,HB6⟩
     ·rw [lagL,lagW,← HSN.out,← HSD.out,← HY.out];exact HO6.out
     ·exact blk_grown (blk_drewN HBp4.out nd) HG6.out (hne _ (by omega))
     ·exact blk_grown (blk_drewN HBa4.out nd) HG6.out (hne _ (by omega))
   ·have hd : decide ((n : Int) < (xs.length : Int)) = false := decide_eq_false (by omega)
    have hn : n = xs.length := by have := HK.out;omega
    subst hn
    clear hlt HK
    go_wp2
    first|go_ret2|((try simp only [Exit.inBlock,Exit.then]);refine bodyPost_ret (results_tmp rfl _ _ rfl) rfl ?_)
    exact ⟨_,rfl,Kd.R_mono HO.out (fun _ _ => trivial),HB.out⟩
 ·have hd : decide xs.Nodup = false := decide_eq_false hnd
  rw [if_neg hnd,if_neg hnd]
  go_enter Try.func33,Try.ntmps33
  go_wp2_with (first|(go_at_call 59;(with_reducible refine HU.out.mono ?_);rintro e w1 ⟨rfl,hb3⟩;have HB3 := Aside0.mk (below_step HB2.out hb3);clear hb3))
  first|go_ret2|((try simp only [Exit.inBlock,Exit.then]);refine bodyPost_ret (results_tmp rfl _ _ rfl) rfl ?_)
  exact ⟨_,rfl,Kd.R_nil _ _ _ _ _,HB3.out⟩
end Go.Proofs.Ytmdoaijkaaaglaa.Hw
end
section
namespace Go.Proofs.Ytmdoaijkaaaglaa.Pr
open Go.RowKit Go.Proofs.YtmdoaijkaaaglaaW.PrintWords Go.Proofs.YtmdoaijkaaaglaaW.PrintLast Go.Proofs.YtmdoaijkaaaglaaW.PrintMore
attribute [local go_sem] max2_int min2_int max_two min_two max_three min_three max_four min_four
open Go.Proofs.Ytmdoaijkaaaglaa.Hw
def privityref01_Sub.f (a0 : Int) (a1 : Int) (a2 : Int) : Option (Int) := if a0 = 0 then (none) else (some (Int.tmod (IntKind.u64.wrap ((IntKind.u64.wrap (a1 + a0)) - a2)) a0))
set_option maxHeartbeats 8000000 in
set_option maxRecDepth 100000 in
theorem privityref01_Sub.calls (a0 : Int) (a1 : Int) (a2 : Int) (r : Int) (w : World) (h : privityref01_Sub.f a0 a1 a2 = some r) :
  Calls Try.prog 48 #[.int .u64 a0,.int .u64 a1,.int .u64 a2] w fun e w' => e = .returned (.int .u64 r) ∧ Drawn0 w w' := by
 have H : (if a0 = 0 then (none) else (some (Int.tmod (IntKind.u64.wrap ((IntKind.u64.wrap (a1 + a0)) - a2)) a0))) = some r := h
 clear h
 by_cases c4 : a0 = 0
 ·rw [if_pos c4] at H
  exact absurd H (by simp)
 ·rw [if_neg c4] at H
  have c4b0 : (a0 == 0) = false := beq_eq_false_iff_ne.mpr c4
  have c4b1 : (a0 != 0) = true := bne_iff_ne.mpr c4
  obtain rfl := Option.some.inj H
  go_enter Try.func48,Try.ntmps48
  go_wp2
  go_ret
  exact ⟨by first|rfl|(simp;done)|(simp [*];done),by repeat (first|exact Drawn0.refl _|apply Drawn0.step)⟩
def privityref01_Mul.l0 : Nat → Int → Int → Int → Int → Option (Int)
 | 0,_,_,_,_ => none
 | k + 1,x0,x1,x2,x7 => if x2 > 0 then (if (Int.tmod x2 2) = 1 then (if x0 = 0 then (none) else (privityref01_Mul.l0 k x0 (Int.tmod (IntKind.u64.wrap (x1 + x1)) x0) (IntKind.u64.wrap (Int.tdiv x2 2)) (Int.tmod (IntKind.u64.wrap (x7 + x1)) x0))) else (if x0 = 0 then (none) else (privityref01_Mul.l0 k x0 (Int.tmod (IntKind.u64.wrap (x1 + x1)) x0) (IntKind.u64.wrap (Int.tdiv x2 2)) x7))) else (some x7)
def privityref01_Mul.f (k : Nat) (a0 : Int) (a1 : Int) (a2 : Int) : Option (Int) := privityref01_Mul.l0 k a0 a1 a2 0
theorem privityref01_Mul.mono_l : ∀ k,(∀ y0 y1 y2 y3,LeO (privityref01_Mul.l0 k y0 y1 y2 y3) (privityref01_Mul.l0 (k + 1) y0 y1 y2 y3))
 | 0 => fun _ _ _ _ r h => by simp [privityref01_Mul.l0] at h
 | k + 1 => by
  have ih0 := privityref01_Mul.mono_l k
  ·intro y0 y1 y2 y3
   unfold privityref01_Mul.l0
   repeat' first
   | (with_reducible exact ih0 _ _ _ _)
   | (with_reducible exact LeO.refl _)
   | (with_reducible exact LeO.none _)
   | (with_reducible refine LeO.ite ?_ ?_)
   | (with_reducible refine LeO.bind ?_ (fun _ => ?_))
   | exact ih0 _ _ _ _
   | exact LeO.none _
   | refine LeO.ite ?_ ?_
   | refine LeO.bind ?_ (fun _ => ?_)
theorem privityref01_Mul.mono : ∀ a0 a1 a2 k,LeO (privityref01_Mul.f k a0 a1 a2) (privityref01_Mul.f (k + 1) a0 a1 a2) := by
 intro a0 a1 a2 k
 have ih0 := privityref01_Mul.mono_l k
 unfold privityref01_Mul.f
 repeat' first
   | (with_reducible exact ih0 _ _ _ _)
   | (with_reducible exact LeO.refl _)
   | (with_reducible exact LeO.none _)
   | (with_reducible refine LeO.ite ?_ ?_)
   | (with_reducible refine LeO.bind ?_ (fun _ => ?_))
   | exact ih0 _ _ _ _
   | exact LeO.none _
   | refine LeO.ite ?_ ?_
   | refine LeO.bind ?_ (fun _ => ?_)
set_option maxHeartbeats 8000000 in
set_option maxRecDepth 100000 in
theorem privityref01_Mul.calls (k : Nat) (a0 : Int) (a1 : Int) (a2 : Int) (r : Int) (w : World) (h : privityref01_Mul.f k a0 a1 a2 = some r) :
  Calls Try.prog 78 #[.int .u64 a0,.int .u64 a1,.int .u64 a2] w fun e w' => e = .returned (.int .u64 r) ∧ Drawn0 w w' := by
 have H : (privityref01_Mul.l0 k a0 a1 a2 0) = some r := h
 clear h
 have H' := am H
 clear H
 go_enter Try.func78,Try.ntmps78
 go_wp2
 go_loopg [1,2,7] k (fun kq v1 v2 v7 w' => ∃ (x1_1 : Int) (x2_1 : Int) (x7_1 : Int),v1 = .int .u64 x1_1 ∧ v2 = .int .u64 x2_1 ∧ v7 = .int .u64 x7_1 ∧ Aside0 (privityref01_Mul.l0 kq a0 x1_1 x2_1 x7_1 = some r) ∧ Aside0 (kq ≤ k) ∧ Drawn0 w w')
 case atStart => exact ⟨(a1),(a2),(0),(by first|rfl|(simp;done)|(simp [*];done)),(by first|rfl|(simp;done)|(simp [*];done)),(by first|rfl|(simp;done)|(simp [*];done)),H',⟨Nat.le_refl _⟩,by repeat (first|exact Drawn0.refl _|apply Drawn0.step)⟩
 case round =>
  clear H'
  try clear p2
  obtain ⟨x1_1,x2_1,x7_1,rfl,rfl,rfl,HA,HK1,⟨m1,rfl⟩⟩ := hrel
  cases gk with
  | zero => exact absurd HA.out (by simp [privityref01_Mul.l0])
  | succ k1 =>
   have H := HA.out
   clear HA
   simp only [privityref01_Mul.l0] at H
   by_cases c4 : x2_1 > 0
   ·rw [if_pos c4] at H
    have c4b0 : decide (0 < x2_1) = true := decide_eq_true c4
    clear c4
    by_cases c5 : (Int.tmod x2_1 2) = 1
    ·rw [if_pos c5] at H
     have c5b0 : ((Int.tmod x2_1 2) == 1) = true := beq_iff_eq.mpr c5
     have c5b1 : ((Int.tmod x2_1 2) != 1) = false := bne_eq_false_iff_eq.mpr c5
     clear c5
     by_cases c6 : a0 = 0
     ·rw [if_pos c6] at H
      exact absurd H (by simp)
     ·rw [if_neg c6] at H
      have c6b0 : (a0 == 0) = false := beq_eq_false_iff_ne.mpr c6
      have c6b1 : (a0 != 0) = true := bne_iff_ne.mpr c6
      have H' := am H
      clear H
      go_wp2
      go_roundg k1
      case measure => have := HK1.out;omega
      case rel => exact ⟨(Int.tmod (IntKind.u64.wrap (x1_1 + x1_1)) a0),(IntKind.u64.wrap (Int.tdiv x2_1 2)),(Int.tmod (IntKind.u64.wrap (x7_1 + x1_1)) a0),(by first|rfl|(simp;done)|(simp [*];done)),(by first|rfl|(simp;done)|(simp [*];done)),(by first|rfl|(simp;done)|(simp [*];done)),H',⟨by have := HK1.out;omega⟩,by repeat (first|exact Drawn0.refl _|apply Drawn0.step)⟩
    ·rw [if_neg c5] at H
     have c5b0 : ((Int.tmod x2_1 2) == 1) = false := beq_eq_false_iff_ne.mpr c5
     have c5b1 : ((Int.tmod x2_1 2) != 1) = true := bne_iff_ne.mpr c5
     by_cases c7 : a0 = 0
     ·rw [if_pos c7] at H
      exact absurd H (by simp)
     ·rw [if_neg c7] at H
      have c7b0 : (a0 == 0) = false := beq_eq_false_iff_ne.mpr c7
      have c7b1 : (a0 != 0) = true := bne_iff_ne.mpr c7
      have H' := am H
      clear H
      go_wp2
      go_roundg k1
      case measure => have := HK1.out;omega
      case rel => exact ⟨(Int.tmod (IntKind.u64.wrap (x1_1 + x1_1)) a0),(IntKind.u64.wrap (Int.tdiv x2_1 2)),(x7_1),(by first|rfl|(simp;done)|(simp [*];done)),(by first|rfl|(simp;done)|(simp [*];done)),(by first|rfl|(simp;done)|(simp [*];done)),H',⟨by have := HK1.out;omega⟩,by repeat (first|exact Drawn0.refl _|apply Drawn0.step)⟩
   ·rw [if_neg c4] at H
    have c4b0 : decide (0 < x2_1) = false := decide_eq_false c4
    clear c4
    obtain rfl := Option.some.inj H
    go_wp2
    go_ret
    exact ⟨by first|rfl|(simp;done)|(simp [*];done),by repeat (first|exact Drawn0.refl _|apply Drawn0.step)⟩
end Go.Proofs.Ytmdoaijkaaaglaa.Pr
end
section
namespace Go.Proofs.Ytmdoaijkaaaglaa.E
open Go.RowKit Go.Proofs.Ytmdoaijkaaaglaa.Pr Go.Proofs.Ytmdoaijkaaaglaa.Hw Go.Proofs.YtmdoaijkaaaglaaW.PrintWords Go.Proofs.YtmdoaijkaaaglaaW.PrintLast Go.Proofs.YtmdoaijkaaaglaaW.PrintMore

end Go.Proofs.Ytmdoaijkaaaglaa.E
end
section
namespace Go.Proofs.Ytmdoaijkaaaglaa.Hw
open Go.RowKit Go.Proofs.Ytmdoaijkaaaglaa.Pr Go.Proofs.YtmdoaijkaaaglaaW.PrintWords Go.Proofs.YtmdoaijkaaaglaaW.PrintLast Go.Proofs.YtmdoaijkaaaglaaW.PrintMore Go.Proofs.Ytmdoaijkaaaglaa.E
structure PolI (wr : World) (bp bf bd bx : Nat) (p X Y : Int) (s : List Int × Int) (w : World) : Prop where
 hp : Box w bp p
 hf : ∃ A c,w.heap[bf]? = some (.cells #[.slice A s.1.length c] 40 (0,0)) ∧ Kd.R (Kd.int .u64) 22 w wr.heap.size (fun k => k ≠ bd) (.slice A s.1.length c) s.1
 hd : Box w bd s.2
 hx : w.heap[bx]? = some (.cells #[.int .u64 X,.int .u64 Y] 56 (0,0))
 r1 : ∀ x ∈ s.1,Res p x
 r2 : Res p s.2
 below : Below wr.heap.size wr w
theorem cell_alloc_of {w : World} {n : Nat} {a : Addr} {v : Value} (h : w.cell? a = some v) (o : Obj) : ((w.drewN n).alloc o).cell? a = some v := (World.cell?_alloc_lt _ _ _ (World.block_lt_of_cell? w _ h)).trans h
def xsOf (pts : List S56) : List Int := pts.map fun x => x.f0
theorem rdT_nat (pts : List S56) (i : Nat) (h : i < pts.length) : rd_T56 pts (i : Int) = pts[i] := by
 unfold rd_T56;rw [Int.toNat_natCast,List.getD_eq_getElem?_getD,List.getElem?_eq_getElem h];rfl
def PtsOk (p : Int) (pts : List S56) : Prop := ∀ x ∈ pts,Res p x.f0 ∧ Res p x.f1
theorem PtsOk.xs {p : Int} {pts : List S56} (h : PtsOk p pts) : ∀ x ∈ xsOf pts,Res p x := by
 intro x hx
 obtain ⟨y,hy,rfl⟩ := List.mem_map.1 hx
 exact (h y hy).1
theorem PtsOk.at_ {p : Int} {pts : List S56} (h : PtsOk p pts) (i : Nat) (hi : i < pts.length) : Res p (rd_T56 pts (i : Int)).f0 ∧ Res p (rd_T56 pts (i : Int)).f1 := by
 rw [rdT_nat _ _ hi];exact h _ (List.getElem_mem _)
theorem xsOf_next (pts : List S56) (n : Nat) (h : n < pts.length) : xsOf (pts.take n) ++ [(rd_T56 pts (n : Int)).f0] = xsOf (pts.take (n + 1)) := by
 rw [rdT_nat _ _ h,List.take_succ_eq_append_getElem h];simp only [xsOf,List.map_append,List.map_cons,List.map_nil]
theorem xsOf_take_length (pts : List S56) (n : Nat) (h : n ≤ pts.length) : (xsOf (pts.take n)).length = n := by simp [xsOf];omega
def supB (p : Int) : Bool := decide (p = 31) || decide (p = 127) || decide (p = 8191) || decide (p = 131071) || decide (p = 524287) || decide (p = 2147483647) || decide (p = 2305843009213693951)
theorem supB_of {p : Int} (h : supB p = true) : Supp p := by
 simp only [supB,Bool.or_eq_true,decide_eq_true_eq] at h
 rcases h with (((((h|h)|h)|h)|h)|h)|h
 ·exact ⟨5,Or.inl ⟨h,rfl⟩⟩
 ·exact ⟨7,Or.inr (Or.inl ⟨h,rfl⟩)⟩
 ·exact ⟨13,Or.inr (Or.inr (Or.inl ⟨h,rfl⟩))⟩
 ·exact ⟨17,Or.inr (Or.inr (Or.inr (Or.inl ⟨h,rfl⟩)))⟩
 ·exact ⟨19,Or.inr (Or.inr (Or.inr (Or.inr (Or.inl ⟨h,rfl⟩))))⟩
 ·exact ⟨31,Or.inr (Or.inr (Or.inr (Or.inr (Or.inr (Or.inl ⟨h,rfl⟩)))))⟩
 ·exact ⟨61,Or.inr (Or.inr (Or.inr (Or.inr (Or.inr (Or.inr ⟨h,rfl⟩)))))⟩
theorem supB_iff {p : Int} : supB p = true ↔ Supp p := by
 refine ⟨supB_of,fun ⟨q,h⟩ => ?_⟩
 rcases h with ⟨rfl,_⟩|⟨rfl,_⟩|⟨rfl,_⟩|⟨rfl,_⟩|⟨rfl,_⟩|⟨rfl,_⟩|⟨rfl,_⟩ <;> rfl
def resB (p x : Int) : Bool := decide (0 ≤ x) && decide (x < p)
theorem resB_iff {p x : Int} : resB p x = true ↔ Res p x := by simp [resB,Res]
def ressB (p : Int) (l : List Int) : Bool := l.all (resB p)
theorem ressB_iff {p : Int} {l : List Int} : ressB p l = true ↔ ∀ x ∈ l,Res p x := by simp [ressB,resB_iff]
theorem ifs {c : Prop} [Decidable c] {α : Type} {x : Option α} {r : α} (h : (if c then x else none) = some r) : c ∧ x = some r := by
 by_cases hc : c
 ·rw [if_pos hc] at h;exact ⟨hc,h⟩
 ·rw [if_neg hc] at h;cases h
def interpolate_LagrangeWeights.f (a0 : Int) (l1 : List Int) (a2 : Int) : Option (List Int × Int) :=
 if supB a0 = true then (if ressB a0 l1 = true then (if resB a0 a2 = true then (if l1.length ≤ 12 then some (if l1.Nodup then lagL a0 a2 l1 l1.length else [],if l1.Nodup then 0 else 1) else none) else none) else none) else none
theorem interpolate_LagrangeWeights.calls (a0 : Int) (A1 : Option Addr) (c1 : Nat) (l1 : List Int) (a2 : Int) (r1 : List Int) (r2 : Int) (w : World) (hr1 : Kd.C (Kd.int .u64) w A1 l1.length l1) (hc1 : l1.length ≤ c1) (h : interpolate_LagrangeWeights.f a0 l1 a2 = some (r1,r2)) :
  Calls Try.prog 33 #[.int .u64 a0,.slice A1 l1.length c1,.int .u64 a2] w fun e w' => ∃ v0_ : Value,e = .returned (.tuple #[v0_,.int .i64 r2]) ∧ Kd.R (Kd.int .u64) 22 w' w.heap.size (fun _ => True) v0_ r1 ∧ Below w.heap.size w w' := by
 unfold interpolate_LagrangeWeights.f at h
 obtain ⟨h1,h⟩ := ifs h
 obtain ⟨h2,h⟩ := ifs h
 obtain ⟨h3,h⟩ := ifs h
 obtain ⟨h4,h⟩ := ifs h
 have h := Option.some.inj h
 have e1 := congrArg Prod.fst h
 have e2 := congrArg Prod.snd h
 simp only at e1 e2
 rw [← e1,← e2]
 exact lag_walk (supB_of h1) A1 c1 l1 a2 (resB_iff.1 h3) (ressB_iff.1 h2) h4 w hr1 hc1
end Go.Proofs.Ytmdoaijkaaaglaa.Hw
end
section
namespace Go.Proofs.Ytmdoaijkaaaglaa.Pr
open Go.RowKit Go.Proofs.YtmdoaijkaaaglaaW.PrintWords Go.Proofs.YtmdoaijkaaaglaaW.PrintLast Go.Proofs.YtmdoaijkaaaglaaW.PrintMore
attribute [local go_sem] max2_int min2_int max_two min_two max_three min_three max_four min_four
open Go.Proofs.Ytmdoaijkaaaglaa.Hw
mutual
def hyperinvertible_New.j0 : Nat → Int → Int → Int → Bool → Option ((List (List Int)) × Int)
 | 0,_,_,_,_ => none
 | k + 1,x0,x1,x2,x35 => if x35 = true then (some (([] : List (List Int)),2)) else ((hyperinvertible_points.f k 1 x2).bind fun t372 => ((hyperinvertible_points.f k (wrap64 (x2 + 1)) x1).bind fun t375 => (hyperinvertible_New.l0 k x0 t372 ([] : List (List Int)) t375 (t375.length : Int) 0)))
def hyperinvertible_New.l0 : Nat → Int → List Int → List (List Int) → List Int → Int → Int → Option ((List (List Int)) × Int)
 | 0,_,_,_,_,_,_ => none
 | k + 1,x0,x8,x9,x41,x42,x43 => if x43 < x42 then (if 0 ≤ x43 then (if x43 < (x41.length : Int) then ((interpolate_LagrangeWeights.f x0 x8 (rd x41 x43)).bind fun bt379 => (if bt379.2 = 0 then (if x9.length < 5864062014805 then (hyperinvertible_New.l0 k x0 x8 (x9 ++ [bt379.1]) x41 x42 (wrap64 (x43 + 1))) else (none)) else (some (([] : List (List Int)),bt379.2)))) else (none)) else (none)) else (some (x9,0))
end
def hyperinvertible_New.f (k : Nat) (a0 : Int) (a1 : Int) (a2 : Int) : Option ((List (List Int)) × Int) := if a1 < 1 then (hyperinvertible_New.j0 k a0 a1 a2 true) else (if a1 > 26 then (hyperinvertible_New.j0 k a0 a1 a2 true) else (if a2 < 1 then (hyperinvertible_New.j0 k a0 a1 a2 true) else (if a2 > 26 then (hyperinvertible_New.j0 k a0 a1 a2 true) else (hyperinvertible_New.j0 k a0 a1 a2 (decide ((IntKind.u64.wrap (wrap64 (a1 + a2))) ≥ a0))))))
theorem hyperinvertible_New.mono_l : ∀ k,(∀ y0 y1 y2 y3,LeO (hyperinvertible_New.j0 k y0 y1 y2 y3) (hyperinvertible_New.j0 (k + 1) y0 y1 y2 y3)) ∧ (∀ y0 y1 y2 y3 y4 y5,LeO (hyperinvertible_New.l0 k y0 y1 y2 y3 y4 y5) (hyperinvertible_New.l0 (k + 1) y0 y1 y2 y3 y4 y5))
 | 0 => ⟨fun _ _ _ _ r h => by simp [hyperinvertible_New.j0] at h,fun _ _ _ _ _ _ r h => by simp [hyperinvertible_New.l0] at h⟩
 | k + 1 => by
  obtain ⟨ih0,ih1⟩ := hyperinvertible_New.mono_l k
  refine ⟨?_,?_⟩
  ·intro y0 y1 y2 y3
   unfold hyperinvertible_New.j0
   repeat' first
   | (with_reducible exact ih0 _ _ _ _)
   | (with_reducible exact ih1 _ _ _ _ _ _)
   | (with_reducible exact hyperinvertible_points.mono _ _ _)
   | (with_reducible exact LeO.refl _)
   | (with_reducible exact LeO.none _)
   | (with_reducible refine LeO.ite ?_ ?_)
   | (with_reducible refine LeO.bind ?_ (fun _ => ?_))
   | exact ih0 _ _ _ _
   | exact ih1 _ _ _ _ _ _
   | exact hyperinvertible_points.mono _ _ _
   | exact LeO.none _
   | refine LeO.ite ?_ ?_
   | refine LeO.bind ?_ (fun _ => ?_)
  ·intro y0 y1 y2 y3 y4 y5
   unfold hyperinvertible_New.l0
   repeat' first
   | (with_reducible exact ih0 _ _ _ _)
   | (with_reducible exact ih1 _ _ _ _ _ _)
   | (with_reducible exact hyperinvertible_points.mono _ _ _)
   | (with_reducible exact LeO.refl _)
   | (with_reducible exact LeO.none _)
   | (with_reducible refine LeO.ite ?_ ?_)
   | (with_reducible refine LeO.bind ?_ (fun _ => ?_))
   | exact ih0 _ _ _ _
   | exact ih1 _ _ _ _ _ _
   | exact hyperinvertible_points.mono _ _ _
   | exact LeO.none _
   | refine LeO.ite ?_ ?_
   | refine LeO.bind ?_ (fun _ => ?_)
theorem hyperinvertible_New.mono : ∀ a0 a1 a2 k,LeO (hyperinvertible_New.f k a0 a1 a2) (hyperinvertible_New.f (k + 1) a0 a1 a2) := by
 intro a0 a1 a2 k
 obtain ⟨ih0,ih1⟩ := hyperinvertible_New.mono_l k
 unfold hyperinvertible_New.f
 repeat' first
   | (with_reducible exact ih0 _ _ _ _)
   | (with_reducible exact ih1 _ _ _ _ _ _)
   | (with_reducible exact hyperinvertible_points.mono _ _ _)
   | (with_reducible exact LeO.refl _)
   | (with_reducible exact LeO.none _)
   | (with_reducible refine LeO.ite ?_ ?_)
   | (with_reducible refine LeO.bind ?_ (fun _ => ?_))
   | exact ih0 _ _ _ _
   | exact ih1 _ _ _ _ _ _
   | exact hyperinvertible_points.mono _ _ _
   | exact LeO.none _
   | refine LeO.ite ?_ ?_
   | refine LeO.bind ?_ (fun _ => ?_)
set_option maxHeartbeats 8000000 in
set_option maxRecDepth 100000 in
theorem hyperinvertible_New.calls (k : Nat) (a0 : Int) (a1 : Int) (a2 : Int) (r1 : List (List Int)) (r2 : Int) (w : World) (h : hyperinvertible_New.f k a0 a1 a2 = some (r1,r2)) :
  Calls Try.prog 14 #[.int .u64 a0,.int .i64 a1,.int .i64 a2] w fun e w' => ∃ v0_ : Value,e = .returned (.tuple #[v0_,.int .i64 r2]) ∧ Kd.S (Kd.slice 22 (Kd.int .u64)) 40 w' w.heap.size (fun _ => True) v0_ r1 ∧ Below w.heap.size w w' := by
 have HB := am (Below.refl w.heap.size w)
 have H : (if a1 < 1 then (hyperinvertible_New.j0 k a0 a1 a2 true) else (if a1 > 26 then (hyperinvertible_New.j0 k a0 a1 a2 true) else (if a2 < 1 then (hyperinvertible_New.j0 k a0 a1 a2 true) else (if a2 > 26 then (hyperinvertible_New.j0 k a0 a1 a2 true) else (hyperinvertible_New.j0 k a0 a1 a2 (decide ((IntKind.u64.wrap (wrap64 (a1 + a2))) ≥ a0))))))) = some (r1,r2) := h
 clear h
 have HC4 := am H
 clear H
 go_enter Try.func14,Try.ntmps14
 go_upto_region 1 with (fail)
 go_cut [35] (fun v35 wc => ∃ (kq : Nat) (x35_3 : Bool),v35 = .bool x35_3 ∧ Aside0 (hyperinvertible_New.j0 kq a0 a1 a2 x35_3 = some (r1,r2)) ∧ Aside0 (kq ≤ k) ∧ Aside0 (Below w.heap.size w wc))
 case first =>
  have H := HC4.out
  clear HC4
  by_cases c5 : a1 < 1
  ·rw [if_pos c5] at H
   have c5b0 : decide (a1 < 1) = true := decide_eq_true c5
   clear c5
   (first|rw [c5b0]|(simp only [i64_w,i32_w];rw [c5b0])|skip)
   have H' := am H
   clear H
   go_wp2
   go_meet
   case rel => exact ⟨_,(true),(by first|rfl|(simp;done)|(simp [*];done)),H',⟨by first|omega|exact Nat.le_refl _⟩,⟨bb HB⟩⟩
  ·rw [if_neg c5] at H
   have c5b0 : decide (a1 < 1) = false := decide_eq_false c5
   clear c5
   (first|rw [c5b0]|(simp only [i64_w,i32_w];rw [c5b0])|skip)
   by_cases c6 : a1 > 26
   ·rw [if_pos c6] at H
    have c6b0 : decide (26 < a1) = true := decide_eq_true c6
    clear c6
    have H' := am H
    clear H
    go_wp2
    go_meet
    case rel => exact ⟨_,(true),(by first|rfl|(simp;done)|(simp [*];done)),H',⟨by first|omega|exact Nat.le_refl _⟩,⟨bb HB⟩⟩
   ·rw [if_neg c6] at H
    have c6b0 : decide (26 < a1) = false := decide_eq_false c6
    clear c6
    by_cases c7 : a2 < 1
    ·rw [if_pos c7] at H
     have c7b0 : decide (a2 < 1) = true := decide_eq_true c7
     clear c7
     have H' := am H
     clear H
     go_wp2
     go_meet
     case rel => exact ⟨_,(true),(by first|rfl|(simp;done)|(simp [*];done)),H',⟨by first|omega|exact Nat.le_refl _⟩,⟨bb HB⟩⟩
    ·rw [if_neg c7] at H
     have c7b0 : decide (a2 < 1) = false := decide_eq_false c7
     clear c7
     by_cases c8 : a2 > 26
     ·rw [if_pos c8] at H
      have c8b0 : decide (26 < a2) = true := decide_eq_true c8
      clear c8
      have H' := am H
      clear H
      go_wp2
      go_meet
      case rel => exact ⟨_,(true),(by first|rfl|(simp;done)|(simp [*];done)),H',⟨by first|omega|exact Nat.le_refl _⟩,⟨bb HB⟩⟩
     ·rw [if_neg c8] at H
      have c8b0 : decide (26 < a2) = false := decide_eq_false c8
      clear c8
      have H' := am H
      clear H
      go_wp2
      go_meet
      case rel => exact ⟨_,(decide ((IntKind.u64.wrap (wrap64 (a1 + a2))) ≥ a0)),(by first|rfl|(simp;done)|(simp [*];done)),H',⟨by first|omega|exact Nat.le_refl _⟩,⟨bb HB⟩⟩
 case rest =>
  clear HC4
  try clear c1
  try clear p2
  try clear c5
  try clear c5b0
  try clear c6
  try clear c6b0
  try clear p6
  try clear c7
  try clear c7b0
  try clear c8
  try clear c8b0
  obtain ⟨kq,x35_3,rfl,HA,HJ3,HB⟩ := hcut
  cases kq with
  | zero => exact absurd HA.out (by simp [hyperinvertible_New.j0])
  | succ kj3 =>
   have H := HA.out
   clear HA
   simp only [hyperinvertible_New.j0] at H
   by_cases c9 : x35_3 = true
   ·subst c9
    rw [if_pos rfl] at H
    simp only [Option.some.injEq,Prod.mk.injEq] at H
    obtain ⟨rfl,rfl⟩ := H
    go_wp2
    go_ret2
    exact ⟨_,by first|rfl|(simp [errW_none,errW_some] <;> rfl)|(simp [*,errW_none,errW_some] <;> rfl),by first|exact Kd.S_nil _ _ _ _ _|exact Kd.N_nil _ _ _ _ _|exact Kd.V_nil _ _ _ _ _|exact Kd.Q_nil _ _ _ _ _|exact Kd.R_nil _ _ _ _ _,bb HB⟩
   ·replace c9 := Bool.eq_false_iff.mpr c9
    subst c9
    rw [if_neg (show ¬ (false = true) by decide)] at H
    replace H := Option.bind_eq_some_iff.mp H
    obtain ⟨t372,A100,H⟩ := H
    try dsimp only at H
    have A10 := am A100
    clear A100
    replace H := Option.bind_eq_some_iff.mp H
    obtain ⟨t375,A110,H⟩ := H
    try dsimp only at H
    have A11 := am A110
    clear A110
    have H' := am H
    clear H
    go_wp2_with (first|((with_reducible refine gate_callee (f := 39) rfl ?_);refine goesL_ (some 37) rfl rfl Try.func39 (by kernel_rfl) rfl #[.int .i64 1,.int .i64 a2] rfl (by (try simp only [List.map_toArray,List.map_cons,List.map_nil]);first|done|rfl|(simp only [List.length_drop,List.length_take];rfl)) ?_;(with_reducible refine (hyperinvertible_points.calls kj3 1 a2 t372 _ A10.out).mono ?_);rintro e w12 ⟨v373,rfl,ho0,hb⟩;refine ⟨_,rfl,?_⟩;have n0_ := am (Kd.R_lower ho0 (below_size (bb HB)));have n1_ := am (below_step (bb HB) hb);clear HB;have HO374 := n0_;have HB := n1_;clear n0_ n1_;(try clear hb);(try clear hb2);(try clear hk);(try clear hi);(try clear ho0))|((with_reducible refine gate_callee (f := 39) rfl ?_);refine goesL_ (some 41) rfl rfl Try.func39 (by kernel_rfl) rfl #[.int .i64 (wrap64 (a2 + 1)),.int .i64 a1] rfl (by (try simp only [List.map_toArray,List.map_cons,List.map_nil]);first|done|rfl|(simp only [List.length_drop,List.length_take];rfl)) ?_;(with_reducible refine (hyperinvertible_points.calls kj3 (wrap64 (a2 + 1)) a1 t375 _ A11.out).mono ?_);rintro e w13 ⟨v376,rfl,ho0,hb⟩;refine ⟨_,rfl,?_⟩;have n0_ := am (Kd.R_elder' (rr HO374) (Kd.R_base ho0) hb);have n1_ := am (Kd.R_lower (Kd.R_new' ho0 (Kd.R_lt (rr HO374))) (below_size (bb HB)));have n2_ := am (below_step (bb HB) hb);clear HO374 HB;have HO374 := n0_;have HO377 := n1_;have HB := n2_;clear n0_ n1_ n2_;(try clear hb);(try clear hb2);(try clear hk);(try clear hi);(try clear ho0);obtain ⟨Ao14,co14,eo14⟩ := Kd.R_slice HO377.out;subst eo14))
    go_loopg [9,43] kj3 (fun kq v9 v43 w' => ∃ (x9_2 : List (List Int)) (x43_2 : Int),v43 = .int .i64 x43_2 ∧ Aside0 (hyperinvertible_New.l0 kq a0 t372 x9_2 t375 (t375.length : Int) x43_2 = some (r1,r2)) ∧ Aside0 (kq ≤ kj3) ∧ Aside0 (Kd.R (Kd.int .u64) 22 w' w.heap.size (fun k_ => some k_ ≠ ((.slice Ao14 t375.length co14) : Value).ownBlock) v373 t372) ∧ Aside0 (Kd.S (Kd.slice 22 (Kd.int .u64)) 40 w' w.heap.size (fun k_ => some k_ ≠ (v373 : Value).ownBlock ∧ some k_ ≠ ((.slice Ao14 t375.length co14) : Value).ownBlock) v9 x9_2) ∧ Aside0 (Kd.R (Kd.int .u64) 22 w' w.heap.size (fun k_ => some k_ ≠ (v373 : Value).ownBlock) (.slice Ao14 t375.length co14) t375) ∧ Aside0 (Below w.heap.size w w'))
    case atStart => exact ⟨(([] : List (List Int))),(0),(by first|rfl|(simp;done)|(simp [*];done)),H',⟨Nat.le_refl _⟩,⟨by (with_reducible repeat (first|apply Kd.R_alloc|apply Kd.R_drewN|apply Kd.R_drew));exact Kd.R_mono HO374.out (fun _ hk => hk.2)⟩,⟨by first|exact Kd.S_nil _ _ _ _ _|exact Kd.N_nil _ _ _ _ _|exact Kd.V_nil _ _ _ _ _|exact Kd.Q_nil _ _ _ _ _|exact Kd.R_nil _ _ _ _ _⟩,⟨by (with_reducible repeat (first|apply Kd.R_alloc|apply Kd.R_drewN|apply Kd.R_drew));exact Kd.R_mono HO377.out (fun _ hk => hk.2)⟩,⟨bb HB⟩⟩
    case round =>
     clear H'
     try clear c1
     try clear p2
     try clear c3
     try clear c5
     try clear c5b0
     try clear c6
     try clear c6b0
     try clear p6
     try clear c7
     try clear c7b0
     try clear c8
     try clear c8b0
     try clear c9
     try clear c14
     try clear p2
     try clear p6
     obtain ⟨x9_2,x43_2,rfl,HA,HK2,HO_8,HO_9,HO_41,HB⟩ := hrel
     cases gk with
     | zero => exact absurd HA.out (by simp [hyperinvertible_New.l0])
     | succ k2 =>
      have H := HA.out
      clear HA
      simp only [hyperinvertible_New.l0] at H
      by_cases c15 : x43_2 < (t375.length : Int)
      ·rw [if_pos c15] at H
       have c15b0 : decide (x43_2 < (t375.length : Int)) = true := decide_eq_true c15
       clear c15
       by_cases c16 : 0 ≤ x43_2
       ·rw [if_pos c16] at H
        have c16b0 : decide (0 ≤ x43_2) = true := decide_eq_true c16
        clear c16
        by_cases c17 : x43_2 < (t375.length : Int)
        ·rw [if_pos c17] at H
         have c17b0 : decide (x43_2 < (t375.length : Int)) = true := decide_eq_true c17
         clear c17
         replace H := Option.bind_eq_some_iff.mp H
         obtain ⟨⟨t379,t380⟩,A180,H⟩ := H
         try dsimp only at H
         have A18 := am A180
         clear A180
         by_cases c19 : t380 = 0
         ·rw [if_pos c19] at H
          have c19b0 : (t380 == 0) = true := beq_iff_eq.mpr c19
          have c19b1 : (t380 != 0) = false := bne_eq_false_iff_eq.mpr c19
          clear c19
          by_cases c20 : x9_2.length < 5864062014805
          ·rw [if_pos c20] at H
           have LMc20 := am c20
           clear c20
           obtain ⟨y383,hy383⟩ : ∃ y_ : List (List Int),y_ = (x9_2 ++ [t379]) := ⟨_,rfl⟩
           replace H : (hyperinvertible_New.l0 k2 a0 t372 y383 t375 (t375.length : Int) (wrap64 (x43_2 + 1))) = some (r1,r2) := by first|(rw [hy383];with_reducible exact H)|(have H2_ := (Option.bind_some _ _).symm.trans H;rw [hy383];with_reducible exact H2_)|(have H2_ := (Option.bind_some _ _).symm.trans H;with_reducible exact H2_)|with_reducible exact H|(rw [hy383];exact H)|exact H
           have Ny383 := am hy383
           clear hy383
           have H' := am H
           clear H
           have p378 : 0 ≤ (x43_2 : Int) := od
           have q378 : x43_2 < (t375.length : Int) := od
           obtain ⟨ad378,e378,hx378_0⟩ := Kd.at_int (Kd.R_reads' HO_41.out).2.2 x43_2 p378 q378
           cases e378
           replace p378 := eq_true p378
           replace q378 := eq_true q378
           obtain ⟨Ao21,co21,eo21⟩ := Kd.R_slice HO_8.out
           subst eo21
           go_wp2_with (first|((with_reducible refine gate_callee (f := 33) rfl ?_);refine goesL_ (some 51) rfl rfl Try.func33 (by kernel_rfl) rfl #[.int .u64 a0,.slice Ao21 t372.length co21,.int .u64 (rd t375 x43_2)] rfl (by (try simp only [List.map_toArray,List.map_cons,List.map_nil]);first|done|rfl|(simp only [List.length_drop,List.length_take];rfl)) ?_;(with_reducible refine (interpolate_LagrangeWeights.calls a0 _ _ t372 (rd t375 x43_2) t379 t380 _ ?side1 ?side2 A18.out).mono ?_);(case side1 => exact cr HO_8);(case side2 => exact (Kd.R_reads' HO_8.out).2.1);rintro e w22 ⟨v381,rfl,ho0,hb⟩;refine ⟨_,rfl,?_⟩;have n0_ := am (Kd.R_elder' (rr HO_8) (Kd.R_base ho0) hb);have n1_ := am (Kd.S_elder' (by (with_reducible repeat (first|apply Kd.S_alloc|apply Kd.S_drewN|apply Kd.S_drew));exact HO_9.out) (Kd.R_base ho0) hb);have n2_ := am (Kd.R_elder' (rr HO_41) (Kd.R_base ho0) hb);have n3_ := am (Kd.R_lower (Kd.R_new' (Kd.R_new' ho0 (Kd.R_lt (rr HO_8))) (Kd.R_lt (rr HO_41))) (below_size (bb HB)));have n4_ := am (below_step (bb HB) hb);clear HO_8 HO_9 HO_41 HB;have HO_8 := n0_;have HO_9 := n1_;have HO_41 := n2_;have HO382 := n3_;have HB := n4_;clear n0_ n1_ n2_ n3_ n4_;(try clear hb);(try clear hb2);(try clear hk);(try clear hi);(try clear ho0);obtain ⟨Ao24,co24,eo24⟩ := Kd.R_slice HO382.out;subst eo24)|((with_reducible refine gate_builtin (b := .append) (xs := #[.tmp 57,.tmp 59]) rfl ?_);at_builtin;refine Kd.S_append (Kd.slice 22 (Kd.int .u64)) (w0 := w) w.heap.size rfl (.tmp 57) (.tmp 59) 25 40 (.slice none 0 0) 24 rfl Try.underlying25 info40 rfl (by decide) (by omega) u9 x9_2 t379 [.slice Ao24 t379.length co24] (fun k_ => some k_ ≠ (.slice Ao21 t372.length co21 : Value).ownBlock ∧ some k_ ≠ (.slice (some ad378) t375.length co14 : Value).ownBlock) (fun k_ => some k_ = (.slice Ao24 t379.length co24 : Value).ownBlock) rfl rfl ?aP (fun k_ hk_ => ((Kd.R_mono (ok' := fun k_ => ((fun k_ => some k_ ≠ (.slice Ao21 t372.length co21 : Value).ownBlock ∧ some k_ ≠ (.slice (some ad378) t375.length co14 : Value).ownBlock)) k_ ∧ some k_ ≠ (u9 : Value).ownBlock) (Kd.R_apart' (HO382.out) (Kd.S_typed HO_9.out) (by decide)) (fun k_ hk => ⟨⟨hk.1.1.2,hk.1.2⟩,hk.2⟩))).1 k_ hk_.symm) ?aF ?aO ?aB ?aS ?aL ?_;(case aP => exact Kd.M_row (Kd.R_mono (Kd.R_tight rfl (Kd.R_mono (ok' := fun k_ => ((fun k_ => some k_ ≠ (.slice Ao21 t372.length co21 : Value).ownBlock ∧ some k_ ≠ (.slice (some ad378) t375.length co14 : Value).ownBlock)) k_ ∧ some k_ ≠ (u9 : Value).ownBlock) (Kd.R_apart' (HO382.out) (Kd.S_typed HO_9.out) (by decide)) (fun k_ hk => ⟨⟨hk.1.1.2,hk.1.2⟩,hk.2⟩))) (fun _ h_ => h_)));(case aB => exact (bb HB));(case aF => exact (fun k_ hk => ⟨Kd.fresh' (Kd.R_lt (rr HO_8)) k_ hk,Kd.fresh' (Kd.R_lt (rr HO_41)) k_ hk⟩));(case aO => exact (by (with_reducible repeat (first|apply Kd.S_alloc|apply Kd.S_drewN|apply Kd.S_drew));exact Kd.S_mono HO_9.out (fun k_ hk => ⟨⟨hk.1.1,hk.1.2⟩,fun e_ => hk.2 e_⟩)));(case aS => exact (below_size (bb HB)));(case aL => have := LMc20.out;omega);intro v384 w23 ho hb hg hat;rw [← Ny383.out] at ho;have n0_ := am (Kd.R_over' (rr HO_8) (Kd.S_typed (by (with_reducible repeat (first|apply Kd.S_alloc|apply Kd.S_drewN|apply Kd.S_drew));exact HO_9.out)) (by decide) hg);have n1_ := am (Kd.R_over' (rr HO_41) (Kd.S_typed (by (with_reducible repeat (first|apply Kd.S_alloc|apply Kd.S_drewN|apply Kd.S_drew));exact HO_9.out)) (by decide) hg);have n2_ := am (hb);have n3_ := am (ho);clear HO_8 HO_41 HB HO_9 HO382;have HO_8 := n0_;have HO_41 := n1_;have HB := n2_;have HO385 := n3_;clear n0_ n1_ n2_ n3_;clear ho hb hg hat))
           go_roundg k2
           case measure => have := HJ3.out;have := HK2.out;omega
           case rel => exact ⟨(y383),(wrap64 (x43_2 + 1)),(by first|rfl|(simp;done)|(simp [*];done)),H',⟨by have := HJ3.out;have := HK2.out;omega⟩,⟨by (with_reducible repeat (first|apply Kd.R_alloc|apply Kd.R_drewN|apply Kd.R_drew));exact Kd.R_mono HO_8.out (fun _ hk => hk.1)⟩,⟨by (with_reducible repeat (first|apply Kd.S_alloc|apply Kd.S_drewN|apply Kd.S_drew));exact HO385.out⟩,⟨by (with_reducible repeat (first|apply Kd.R_alloc|apply Kd.R_drewN|apply Kd.R_drew));exact Kd.R_mono HO_41.out (fun _ hk => hk.1)⟩,⟨bb HB⟩⟩
          ·rw [if_neg c20] at H
           exact absurd H (by simp)
         ·rw [if_neg c19] at H
          have c19b0 : (t380 == 0) = false := beq_eq_false_iff_ne.mpr c19
          have c19b1 : (t380 != 0) = true := bne_iff_ne.mpr c19
          simp only [Option.some.injEq,Prod.mk.injEq] at H
          obtain ⟨rfl,rfl⟩ := H
          have p378 : 0 ≤ (x43_2 : Int) := od
          have q378 : x43_2 < (t375.length : Int) := od
          obtain ⟨ad378,e378,hx378_0⟩ := Kd.at_int (Kd.R_reads' HO_41.out).2.2 x43_2 p378 q378
          cases e378
          replace p378 := eq_true p378
          replace q378 := eq_true q378
          obtain ⟨Ao25,co25,eo25⟩ := Kd.R_slice HO_8.out
          subst eo25
          go_wp2_with (first|((with_reducible refine gate_callee (f := 33) rfl ?_);refine goesL_ (some 51) rfl rfl Try.func33 (by kernel_rfl) rfl #[.int .u64 a0,.slice Ao25 t372.length co25,.int .u64 (rd t375 x43_2)] rfl (by (try simp only [List.map_toArray,List.map_cons,List.map_nil]);first|done|rfl|(simp only [List.length_drop,List.length_take];rfl)) ?_;(with_reducible refine (interpolate_LagrangeWeights.calls a0 _ _ t372 (rd t375 x43_2) t379 t380 _ ?side1 ?side2 A18.out).mono ?_);(case side1 => exact cr HO_8);(case side2 => exact (Kd.R_reads' HO_8.out).2.1);rintro e w26 ⟨v381,rfl,ho0,hb⟩;refine ⟨_,rfl,?_⟩;have n0_ := am (Kd.R_elder' (rr HO_8) (Kd.R_base ho0) hb);have n1_ := am (Kd.S_elder' (by (with_reducible repeat (first|apply Kd.S_alloc|apply Kd.S_drewN|apply Kd.S_drew));exact HO_9.out) (Kd.R_base ho0) hb);have n2_ := am (Kd.R_elder' (rr HO_41) (Kd.R_base ho0) hb);have n3_ := am (Kd.R_lower (Kd.R_new' (Kd.R_new' ho0 (Kd.R_lt (rr HO_8))) (Kd.R_lt (rr HO_41))) (below_size (bb HB)));have n4_ := am (below_step (bb HB) hb);clear HO_8 HO_9 HO_41 HB;have HO_8 := n0_;have HO_9 := n1_;have HO_41 := n2_;have HO382 := n3_;have HB := n4_;clear n0_ n1_ n2_ n3_ n4_;(try clear hb);(try clear hb2);(try clear hk);(try clear hi);(try clear ho0)))
          go_ret2
          exact ⟨_,by first|rfl|(simp [errW_none,errW_some] <;> rfl)|(simp [*,errW_none,errW_some] <;> rfl),by first|exact Kd.S_nil _ _ _ _ _|exact Kd.N_nil _ _ _ _ _|exact Kd.V_nil _ _ _ _ _|exact Kd.Q_nil _ _ _ _ _|exact Kd.R_nil _ _ _ _ _,bb HB⟩
        ·rw [if_neg c17] at H
         exact absurd H (by simp)
       ·rw [if_neg c16] at H
        exact absurd H (by simp)
      ·rw [if_neg c15] at H
       have c15b0 : decide (x43_2 < (t375.length : Int)) = false := decide_eq_false c15
       clear c15
       simp only [Option.some.injEq,Prod.mk.injEq] at H
       obtain ⟨rfl,rfl⟩ := H
       go_wp2
       go_ret2
       exact ⟨_,by first|rfl|(simp [errW_none,errW_some] <;> rfl)|(simp [*,errW_none,errW_some] <;> rfl),by (with_reducible repeat (first|apply Kd.S_alloc|apply Kd.S_drewN|apply Kd.S_drew));exact Kd.S_mono HO_9.out (fun _ hk => trivial),bb HB⟩
def privityref01_exps.f  : Option (List Int) := some (([5,7,13,17,19,31,61] : List Int))
set_option maxHeartbeats 8000000 in
set_option maxRecDepth 100000 in
theorem privityref01_exps.calls  (r : List Int) (w : World) (h : privityref01_exps.f  = some r) :
  Calls Try.prog 75 #[] w fun e w' => ∃ v0_ : Value,e = .returned (v0_) ∧ Kd.R (Kd.int .i64) 3 w' w.heap.size (fun _ => True) v0_ r ∧ Below w.heap.size w w' := by
 have HB := am (Below.refl w.heap.size w)
 have H : (some (([5,7,13,17,19,31,61] : List Int))) = some r := h
 clear h
 obtain ⟨y454,hy454⟩ : ∃ y_ : List Int,y_ = (([5,7,13,17,19,31,61] : List Int)) := ⟨_,rfl⟩
 replace H : (some y454) = some r := by first|(rw [hy454];with_reducible exact H)|(have H2_ := (Option.bind_some _ _).symm.trans H;rw [hy454];with_reducible exact H2_)|(have H2_ := (Option.bind_some _ _).symm.trans H;with_reducible exact H2_)|with_reducible exact H|(rw [hy454];exact H)|exact H
 have Ny454 := am hy454
 clear hy454
 obtain rfl := Option.some.inj H
 go_enter Try.func75,Try.ntmps75
 go_wp2_with (first|((with_reducible refine gate_dst (N := 1) rfl ?_);refine Kd.R_lit (Kd.int .i64) _ 3 ?hg (N := 1) ?hd (xs := ([5,7,13,17,19,31,61] : List Int)) (inner := [.int .i64 5,.int .i64 7,.int .i64 13,.int .i64 17,.int .i64 19,.int .i64 31,.int .i64 61]) (ok := fun _ => True) (okp := fun _ => True) ?hr ?hp (fun _ hk => hk) trivial (Below.refl _ _) (Nat.le_refl _) (by simp) ?_;(case hd => rfl);(case hg => rfl);(case hr => first|(go_simp;done)|(go_simp;rfl));(case hp => exact (Reps.one (show Kd.M (Kd.int .i64) _ _ _ 5 [.int .i64 5] from rfl) (Reps.one (show Kd.M (Kd.int .i64) _ _ _ 7 [.int .i64 7] from rfl) (Reps.one (show Kd.M (Kd.int .i64) _ _ _ 13 [.int .i64 13] from rfl) (Reps.one (show Kd.M (Kd.int .i64) _ _ _ 17 [.int .i64 17] from rfl) (Reps.one (show Kd.M (Kd.int .i64) _ _ _ 19 [.int .i64 19] from rfl) (Reps.one (show Kd.M (Kd.int .i64) _ _ _ 31 [.int .i64 31] from rfl) (Reps.one (show Kd.M (Kd.int .i64) _ _ _ 61 [.int .i64 61] from rfl) (Reps.none _ _)))))))));intro v455 w1 ho2 hb hg_ hnew_;clear hg_ hnew_;(first|rw [← Ny454.out] at ho2|(simp only [Int.reduceToNat] at ho2;rw [← Ny454.out] at ho2));have n0_ := am (Kd.R_lower ho2 (below_size (bb HB)));have n1_ := am (below_step (bb HB) hb);clear HB;have HO456 := n0_;have HB := n1_;clear n0_ n1_;clear hb ho2))
 go_ret
 exact ⟨_,by first|rfl|(simp [errW_none,errW_some] <;> rfl)|(simp [*,errW_none,errW_some] <;> rfl),by (with_reducible repeat (first|apply Kd.R_alloc|apply Kd.R_drewN|apply Kd.R_drew));exact HO456.out,bb HB⟩
def privityref01_Exponent.l0 : Nat → Int → List Int → Int → Option (Int)
 | 0,_,_,_ => none
 | k + 1,x0,x3,x4 => if x4 < (x3.length : Int) then (if 0 ≤ x4 then (if 0 ≤ (IntKind.u64.wrap (rd x3 x4)) then (if x0 = (IntKind.u64.wrap ((shl .u64 1 (IntKind.u64.wrap (rd x3 x4))) - 1)) then (some (rd x3 x4)) else (privityref01_Exponent.l0 k x0 x3 (wrap64 (x4 + 1)))) else (none)) else (none)) else (some 0)
def privityref01_Exponent.f (k : Nat) (a0 : Int) : Option (Int) := (privityref01_exps.f).bind fun t457 => (privityref01_Exponent.l0 k a0 t457 0)
theorem privityref01_Exponent.mono_l : ∀ k,(∀ y0 y1 y2,LeO (privityref01_Exponent.l0 k y0 y1 y2) (privityref01_Exponent.l0 (k + 1) y0 y1 y2))
 | 0 => fun _ _ _ r h => by simp [privityref01_Exponent.l0] at h
 | k + 1 => by
  have ih0 := privityref01_Exponent.mono_l k
  ·intro y0 y1 y2
   unfold privityref01_Exponent.l0
   repeat' first
   | (with_reducible exact ih0 _ _ _)
   | (with_reducible exact LeO.refl _)
   | (with_reducible exact LeO.none _)
   | (with_reducible refine LeO.ite ?_ ?_)
   | (with_reducible refine LeO.bind ?_ (fun _ => ?_))
   | exact ih0 _ _ _
   | exact LeO.none _
   | refine LeO.ite ?_ ?_
   | refine LeO.bind ?_ (fun _ => ?_)
theorem privityref01_Exponent.mono : ∀ a0 k,LeO (privityref01_Exponent.f k a0) (privityref01_Exponent.f (k + 1) a0) := by
 intro a0 k
 have ih0 := privityref01_Exponent.mono_l k
 unfold privityref01_Exponent.f
 repeat' first
   | (with_reducible exact ih0 _ _ _)
   | (with_reducible exact LeO.refl _)
   | (with_reducible exact LeO.none _)
   | (with_reducible refine LeO.ite ?_ ?_)
   | (with_reducible refine LeO.bind ?_ (fun _ => ?_))
   | exact ih0 _ _ _
   | exact LeO.none _
   | refine LeO.ite ?_ ?_
   | refine LeO.bind ?_ (fun _ => ?_)
set_option maxHeartbeats 8000000 in
set_option maxRecDepth 100000 in
theorem privityref01_Exponent.calls (k : Nat) (a0 : Int) (r : Int) (w : World) (h : privityref01_Exponent.f k a0 = some r) :
  Calls Try.prog 38 #[.int .u64 a0] w fun e w' => e = .returned (.int .i64 r) ∧ Below w.heap.size w w' := by
 have HB := am (Below.refl w.heap.size w)
 have H : ((privityref01_exps.f).bind fun t457 => (privityref01_Exponent.l0 k a0 t457 0)) = some r := h
 clear h
 replace H := Option.bind_eq_some_iff.mp H
 obtain ⟨t457,A20,H⟩ := H
 try dsimp only at H
 have A2 := am A20
 clear A20
 have H' := am H
 clear H
 go_enter Try.func38,Try.ntmps38
 go_wp2_with (first|((with_reducible refine gate_callee (f := 75) rfl ?_);refine goesL_ (some 5) rfl rfl Try.func75 (by kernel_rfl) rfl #[] rfl (by (try simp only [List.map_toArray,List.map_cons,List.map_nil]);first|done|rfl|(simp only [List.length_drop,List.length_take];rfl)) ?_;(with_reducible refine (privityref01_exps.calls  t457 _ A2.out).mono ?_);rintro e w3 ⟨v458,rfl,ho0,hb⟩;refine ⟨_,rfl,?_⟩;have n0_ := am (Kd.R_lower ho0 (below_size (bb HB)));have n1_ := am (below_step (bb HB) hb);clear HB;have HO459 := n0_;have HB := n1_;clear n0_ n1_;(try clear hb);(try clear hb2);(try clear hk);(try clear hi);(try clear ho0)))
 go_loopg [4] k (fun kq v4 w' => ∃ (x4_1 : Int),v4 = .int .i64 x4_1 ∧ Aside0 (privityref01_Exponent.l0 kq a0 t457 x4_1 = some r) ∧ Aside0 (kq ≤ k) ∧ Aside0 (Kd.R (Kd.int .i64) 3 w' w.heap.size (fun _ => True) v458 t457) ∧ Aside0 (Below w.heap.size w w'))
 case atStart => exact ⟨(0),(by first|rfl|(simp;done)|(simp [*];done)),H',⟨Nat.le_refl _⟩,⟨by (with_reducible repeat (first|apply Kd.R_alloc|apply Kd.R_drewN|apply Kd.R_drew));exact HO459.out⟩,⟨bb HB⟩⟩
 case round =>
  clear H'
  try clear p2
  try clear c3
  obtain ⟨x4_1,rfl,HA,HK1,HO_3,HB⟩ := hrel
  cases gk with
  | zero => exact absurd HA.out (by simp [privityref01_Exponent.l0])
  | succ k1 =>
   have H := HA.out
   clear HA
   simp only [privityref01_Exponent.l0] at H
   by_cases c4 : x4_1 < (t457.length : Int)
   ·rw [if_pos c4] at H
    have c4b0 : decide (x4_1 < (t457.length : Int)) = true := decide_eq_true c4
    clear c4
    by_cases c5 : 0 ≤ x4_1
    ·rw [if_pos c5] at H
     have c5b0 : decide (0 ≤ x4_1) = true := decide_eq_true c5
     clear c5
     obtain ⟨ji6,hji6⟩ : ∃ j_ : Int,(IntKind.u64.wrap (rd t457 x4_1)) = j_ := ⟨_,rfl⟩
     first|rw [hji6] at H|simp only [hji6] at H
     by_cases c7 : 0 ≤ (ji6)
     ·rw [if_pos c7] at H
      have c7b0 := eq_true c7
      have c7b1 : decide (0 ≤ (ji6)) = true := decide_eq_true c7
      clear c7
      obtain ⟨ji8,hji8⟩ : ∃ j_ : Int,(shl .u64 1 (ji6)) = j_ := ⟨_,rfl⟩
      first|rw [hji8] at H|simp only [hji8] at H
      have hji8_ : (IntKind.u64.wrap (1 * 2 ^ min (ji6).toNat 64)) = ji8 := hji8
      have hji8z : (ji6) ≤ 64 → (IntKind.u64.wrap (1 * 2 ^ (ji6).toNat)) = ji8 := shl_small hji8
      have hji8u : (IntKind.u64.wrap (2 ^ min (ji6).toNat 64)) = ji8 := by have h_ := hji8_;rw [Int.one_mul] at h_;exact h_
      have hji8v : (ji6) ≤ 64 → (IntKind.u64.wrap (2 ^ (ji6).toNat)) = ji8 := fun hle_ => by have h_ := hji8z hle_;rw [Int.one_mul] at h_;exact h_
      by_cases c9 : a0 = (IntKind.u64.wrap ((ji8) - 1))
      ·rw [if_pos c9] at H
       have c9b0 : (a0 == (IntKind.u64.wrap ((ji8) - 1))) = true := beq_iff_eq.mpr c9
       have c9b1 : (a0 != (IntKind.u64.wrap ((ji8) - 1))) = false := bne_eq_false_iff_eq.mpr c9
       clear c9
       obtain rfl := Option.some.inj H
       obtain ⟨Ao10,co10,eo10⟩ := Kd.R_slice HO_3.out
       subst eo10
       have p460 : 0 ≤ (x4_1 : Int) := od
       have q460 : x4_1 < (t457.length : Int) := od
       obtain ⟨ad460,e460,hx460_0⟩ := Kd.at_int (Kd.R_reads' HO_3.out).2.2 x4_1 p460 q460
       cases e460
       replace p460 := eq_true p460
       replace q460 := eq_true q460
       have p461 : 0 ≤ (x4_1 : Int) := od
       have q461 : x4_1 < (t457.length : Int) := od
       obtain ⟨ad461,e461,hx461_0⟩ := Kd.at_int (Kd.R_reads' HO_3.out).2.2 x4_1 p461 q461
       obtain rfl : ad460 = ad461 := (by injection e461)
       replace p461 := eq_true p461
       replace q461 := eq_true q461
       go_wp2
       go_ret
       exact ⟨by first|rfl|(simp [errW_none,errW_some] <;> rfl)|(simp only [← hji6,← hji8];first|rfl|(simp [errW_none,errW_some] <;> rfl))|(simp [*,errW_none,errW_some] <;> rfl),bb HB⟩
      ·rw [if_neg c9] at H
       have c9b0 : (a0 == (IntKind.u64.wrap ((ji8) - 1))) = false := beq_eq_false_iff_ne.mpr c9
       have c9b1 : (a0 != (IntKind.u64.wrap ((ji8) - 1))) = true := bne_iff_ne.mpr c9
       have H' := am H
       clear H
       obtain ⟨Ao11,co11,eo11⟩ := Kd.R_slice HO_3.out
       subst eo11
       have p460 : 0 ≤ (x4_1 : Int) := od
       have q460 : x4_1 < (t457.length : Int) := od
       obtain ⟨ad460,e460,hx460_0⟩ := Kd.at_int (Kd.R_reads' HO_3.out).2.2 x4_1 p460 q460
       cases e460
       replace p460 := eq_true p460
       replace q460 := eq_true q460
       go_wp2
       go_roundg k1
       case measure => have := HK1.out;omega
       case rel => exact ⟨(wrap64 (x4_1 + 1)),(by first|rfl|(simp;done)|(simp [*];done)),H',⟨by have := HK1.out;omega⟩,⟨by (with_reducible repeat (first|apply Kd.R_alloc|apply Kd.R_drewN|apply Kd.R_drew));exact HO_3.out⟩,⟨bb HB⟩⟩
     ·rw [if_neg c7] at H
      exact absurd H (by simp)
    ·rw [if_neg c5] at H
     exact absurd H (by simp)
   ·rw [if_neg c4] at H
    have c4b0 : decide (x4_1 < (t457.length : Int)) = false := decide_eq_false c4
    clear c4
    obtain rfl := Option.some.inj H
    obtain ⟨Ao12,co12,eo12⟩ := Kd.R_slice HO_3.out
    subst eo12
    go_wp2
    go_ret
    exact ⟨by first|rfl|(simp [errW_none,errW_some] <;> rfl)|(simp [*,errW_none,errW_some] <;> rfl),bb HB⟩
def privityref01_Supported.f (k : Nat) (a0 : Int) : Option (Bool) := (privityref01_Exponent.f k a0).bind fun t462 => (some (decide (t462 > 0)))
theorem privityref01_Supported.mono : ∀ a0 k,LeO (privityref01_Supported.f k a0) (privityref01_Supported.f (k + 1) a0) := by
 intro a0 k
 unfold privityref01_Supported.f
 repeat' first
   | (with_reducible exact privityref01_Exponent.mono _ _)
   | (with_reducible exact LeO.refl _)
   | (with_reducible exact LeO.none _)
   | (with_reducible refine LeO.ite ?_ ?_)
   | (with_reducible refine LeO.bind ?_ (fun _ => ?_))
   | exact privityref01_Exponent.mono _ _
   | exact LeO.none _
   | refine LeO.ite ?_ ?_
   | refine LeO.bind ?_ (fun _ => ?_)
set_option maxHeartbeats 8000000 in
set_option maxRecDepth 100000 in
theorem privityref01_Supported.calls (k : Nat) (a0 : Int) (r : Bool) (w : World) (h : privityref01_Supported.f k a0 = some r) :
  Calls Try.prog 13 #[.int .u64 a0] w fun e w' => e = .returned (.bool r) ∧ Below w.heap.size w w' := by
 have HB := am (Below.refl w.heap.size w)
 have H : ((privityref01_Exponent.f k a0).bind fun t462 => (some (decide (t462 > 0)))) = some r := h
 clear h
 replace H := Option.bind_eq_some_iff.mp H
 obtain ⟨t462,A20,H⟩ := H
 try dsimp only at H
 have A2 := am A20
 clear A20
 obtain rfl := Option.some.inj H
 go_enter Try.func13,Try.ntmps13
 go_wp2_with (first|((with_reducible refine gate_callee (f := 38) rfl ?_);refine goesL_ (some 4) rfl rfl Try.func38 (by kernel_rfl) rfl #[.int .u64 a0] rfl (by (try simp only [List.map_toArray,List.map_cons,List.map_nil]);first|done|rfl|(simp only [List.length_drop,List.length_take];rfl)) ?_;(with_reducible refine (privityref01_Exponent.calls k a0 t462 _ A2.out).mono ?_);rintro e w3 ⟨rfl,hb⟩;refine ⟨_,rfl,?_⟩;have n0_ := am (below_step (bb HB) hb);clear HB;have HB := n0_;clear n0_;(try clear hb);(try clear hb2);(try clear hk);(try clear hi)))
 go_ret
 exact ⟨by first|rfl|(simp [errW_none,errW_some] <;> rfl)|(simp [*,errW_none,errW_some] <;> rfl),bb HB⟩
def privityref07_Small.l0 : Nat → List (List Int) → Int → Int → Option (Bool)
 | 0,_,_,_ => none
 | k + 1,x0,x2,x7 => if x7 < (x0.length : Int) then (if 0 ≤ x7 then (if ((rd_L2 x0 x7).length : Int) > x2 then (some false) else (privityref07_Small.l0 k x0 x2 (wrap64 (x7 + 1)))) else (none)) else (some true)
def privityref07_Small.f (k : Nat) (l0 : List (List Int)) (a1 : Int) (a2 : Int) : Option (Bool) := if (l0.length : Int) > a1 then (some false) else (privityref07_Small.l0 k l0 a2 0)
set_option maxHeartbeats 8000000 in
set_option maxRecDepth 100000 in
theorem privityref07_Small.calls (k : Nat) (A0 : Option Addr) (c0 : Nat) (l0 : List (List Int)) (a1 : Int) (a2 : Int) (r : Bool) (w : World) (hr0 : Kd.C (Kd.slice 22 (Kd.int .u64)) w A0 l0.length l0) (hc0 : l0.length ≤ c0) (h : privityref07_Small.f k l0 a1 a2 = some r) :
  Calls Try.prog 17 #[.slice A0 l0.length c0,.int .i64 a1,.int .i64 a2] w fun e w' => e = .returned (.bool r) ∧ Drawn0 w w' := by
 have HR0 := am hr0
 have HC0 := am hc0
 clear hr0 hc0
 have H : (if (l0.length : Int) > a1 then (some false) else (privityref07_Small.l0 k l0 a2 0)) = some r := h
 clear h
 by_cases c4 : (l0.length : Int) > a1
 ·rw [if_pos c4] at H
  have c4b0 : decide (a1 < (l0.length : Int)) = true := decide_eq_true c4
  clear c4
  obtain rfl := Option.some.inj H
  go_enter Try.func17,Try.ntmps17
  go_wp2
  go_ret
  exact ⟨by first|rfl|(simp;done)|(simp [*];done),by repeat (first|exact Drawn0.refl _|apply Drawn0.step)⟩
 ·rw [if_neg c4] at H
  have c4b0 : decide (a1 < (l0.length : Int)) = false := decide_eq_false c4
  clear c4
  have H' := am H
  clear H
  go_enter Try.func17,Try.ntmps17
  go_wp2
  go_loopg [7] k (fun kq v7 w' => ∃ (x7_1 : Int),v7 = .int .i64 x7_1 ∧ Aside0 (privityref07_Small.l0 kq l0 a2 x7_1 = some r) ∧ Aside0 (kq ≤ k) ∧ Drawn0 w w')
  case atStart => exact ⟨(0),(by first|rfl|(simp;done)|(simp [*];done)),H',⟨Nat.le_refl _⟩,by repeat (first|exact Drawn0.refl _|apply Drawn0.step)⟩
  case round =>
   clear H'
   try clear c1
   try clear p2
   try clear c4
   try clear c4b0
   obtain ⟨x7_1,rfl,HA,HK1,⟨m1,rfl⟩⟩ := hrel
   cases gk with
   | zero => exact absurd HA.out (by simp [privityref07_Small.l0])
   | succ k1 =>
    have H := HA.out
    clear HA
    simp only [privityref07_Small.l0] at H
    by_cases c5 : x7_1 < (l0.length : Int)
    ·rw [if_pos c5] at H
     have c5b0 : decide (x7_1 < (l0.length : Int)) = true := decide_eq_true c5
     clear c5
     by_cases c6 : 0 ≤ x7_1
     ·rw [if_pos c6] at H
      have c6b0 : decide (0 ≤ x7_1) = true := decide_eq_true c6
      clear c6
      by_cases c7 : ((rd_L2 l0 x7_1).length : Int) > a2
      ·rw [if_pos c7] at H
       have c7b0 : decide (a2 < ((rd_L2 l0 x7_1).length : Int)) = true := decide_eq_true c7
       clear c7
       obtain rfl := Option.some.inj H
       have p463 : 0 ≤ (x7_1 : Int) := od
       have q463 : x7_1 < (l0.length : Int) := od
       obtain ⟨ad463,A463_0,c463_0,e463,hx463_0,hl463_0,hi463_0⟩ := at_L2 HR0.out x7_1 p463 q463
       cases e463
       have HR463_0 := am hi463_0
       have HC463_0 := am hl463_0
       clear hi463_0 hl463_0
       replace p463 := eq_true p463
       replace q463 := eq_true q463
       go_wp2
       go_ret
       exact ⟨by first|rfl|(simp;done)|(simp [*];done),by repeat (first|exact Drawn0.refl _|apply Drawn0.step)⟩
      ·rw [if_neg c7] at H
       have c7b0 : decide (a2 < ((rd_L2 l0 x7_1).length : Int)) = false := decide_eq_false c7
       clear c7
       have H' := am H
       clear H
       have p463 : 0 ≤ (x7_1 : Int) := od
       have q463 : x7_1 < (l0.length : Int) := od
       obtain ⟨ad463,A463_0,c463_0,e463,hx463_0,hl463_0,hi463_0⟩ := at_L2 HR0.out x7_1 p463 q463
       cases e463
       have HR463_0 := am hi463_0
       have HC463_0 := am hl463_0
       clear hi463_0 hl463_0
       replace p463 := eq_true p463
       replace q463 := eq_true q463
       go_wp2
       go_roundg k1
       case measure => have := HK1.out;omega
       case rel => exact ⟨(wrap64 (x7_1 + 1)),(by first|rfl|(simp;done)|(simp [*];done)),H',⟨by have := HK1.out;omega⟩,by repeat (first|exact Drawn0.refl _|apply Drawn0.step)⟩
     ·rw [if_neg c6] at H
      exact absurd H (by simp)
    ·rw [if_neg c5] at H
     have c5b0 : decide (x7_1 < (l0.length : Int)) = false := decide_eq_false c5
     clear c5
     obtain rfl := Option.some.inj H
     go_wp2
     go_ret
     exact ⟨by first|rfl|(simp;done)|(simp [*];done),by repeat (first|exact Drawn0.refl _|apply Drawn0.step)⟩
def privityref05_Below.l0 : Nat → Int → List Int → Int → Option (Bool)
 | 0,_,_,_ => none
 | k + 1,x0,x1,x5 => if x5 < (x1.length : Int) then (if 0 ≤ x5 then (if (rd x1 x5) ≥ x0 then (some false) else (privityref05_Below.l0 k x0 x1 (wrap64 (x5 + 1)))) else (none)) else (some true)
def privityref05_Below.f (k : Nat) (a0 : Int) (l1 : List Int) : Option (Bool) := privityref05_Below.l0 k a0 l1 0
set_option maxHeartbeats 8000000 in
set_option maxRecDepth 100000 in
theorem privityref05_Below.calls (k : Nat) (a0 : Int) (A1 : Option Addr) (c1 : Nat) (l1 : List Int) (r : Bool) (w : World) (hr1 : Kd.C (Kd.int .u64) w A1 l1.length l1) (hc1 : l1.length ≤ c1) (h : privityref05_Below.f k a0 l1 = some r) :
  Calls Try.prog 25 #[.int .u64 a0,.slice A1 l1.length c1] w fun e w' => e = .returned (.bool r) ∧ Drawn0 w w' := by
 have HR1 := am hr1
 have HC1 := am hc1
 clear hr1 hc1
 have H : (privityref05_Below.l0 k a0 l1 0) = some r := h
 clear h
 have H' := am H
 clear H
 go_enter Try.func25,Try.ntmps25
 go_wp2
 go_loopg [5] k (fun kq v5 w' => ∃ (x5_1 : Int),v5 = .int .i64 x5_1 ∧ Aside0 (privityref05_Below.l0 kq a0 l1 x5_1 = some r) ∧ Aside0 (kq ≤ k) ∧ Drawn0 w w')
 case atStart => exact ⟨(0),(by first|rfl|(simp;done)|(simp [*];done)),H',⟨Nat.le_refl _⟩,by repeat (first|exact Drawn0.refl _|apply Drawn0.step)⟩
 case round =>
  clear H'
  try clear c1
  try clear c2
  try clear p2
  obtain ⟨x5_1,rfl,HA,HK1,⟨m1,rfl⟩⟩ := hrel
  cases gk with
  | zero => exact absurd HA.out (by simp [privityref05_Below.l0])
  | succ k1 =>
   have H := HA.out
   clear HA
   simp only [privityref05_Below.l0] at H
   by_cases c3 : x5_1 < (l1.length : Int)
   ·rw [if_pos c3] at H
    have c3b0 : decide (x5_1 < (l1.length : Int)) = true := decide_eq_true c3
    clear c3
    by_cases c4 : 0 ≤ x5_1
    ·rw [if_pos c4] at H
     have c4b0 : decide (0 ≤ x5_1) = true := decide_eq_true c4
     clear c4
     by_cases c5 : (rd l1 x5_1) ≥ a0
     ·rw [if_pos c5] at H
      have c5b0 : decide (a0 ≤ (rd l1 x5_1)) = true := decide_eq_true c5
      clear c5
      obtain rfl := Option.some.inj H
      have p464 : 0 ≤ (x5_1 : Int) := od
      have q464 : x5_1 < (l1.length : Int) := od
      obtain ⟨ad464,e464,hx464_0⟩ := Kd.at_int HR1.out x5_1 p464 q464
      cases e464
      replace p464 := eq_true p464
      replace q464 := eq_true q464
      go_wp2
      go_ret
      exact ⟨by first|rfl|(simp;done)|(simp [*];done),by repeat (first|exact Drawn0.refl _|apply Drawn0.step)⟩
     ·rw [if_neg c5] at H
      have c5b0 : decide (a0 ≤ (rd l1 x5_1)) = false := decide_eq_false c5
      clear c5
      have H' := am H
      clear H
      have p464 : 0 ≤ (x5_1 : Int) := od
      have q464 : x5_1 < (l1.length : Int) := od
      obtain ⟨ad464,e464,hx464_0⟩ := Kd.at_int HR1.out x5_1 p464 q464
      cases e464
      replace p464 := eq_true p464
      replace q464 := eq_true q464
      go_wp2
      go_roundg k1
      case measure => have := HK1.out;omega
      case rel => exact ⟨(wrap64 (x5_1 + 1)),(by first|rfl|(simp;done)|(simp [*];done)),H',⟨by have := HK1.out;omega⟩,by repeat (first|exact Drawn0.refl _|apply Drawn0.step)⟩
    ·rw [if_neg c4] at H
     exact absurd H (by simp)
   ·rw [if_neg c3] at H
    have c3b0 : decide (x5_1 < (l1.length : Int)) = false := decide_eq_false c3
    clear c3
    obtain rfl := Option.some.inj H
    go_wp2
    go_ret
    exact ⟨by first|rfl|(simp;done)|(simp [*];done),by repeat (first|exact Drawn0.refl _|apply Drawn0.step)⟩
def privityref01_Pow.l0 : Nat → Int → Int → Int → Int → Option (Int)
 | 0,_,_,_,_ => none
 | k + 1,x0,x1,x2,x7 => if x2 > 0 then (if (Int.tmod x2 2) = 1 then ((privityref01_Mul.f k x0 x7 x1).bind fun t140 => ((privityref01_Mul.f k x0 x1 x1).bind fun t141 => (privityref01_Pow.l0 k x0 t141 (IntKind.u64.wrap (Int.tdiv x2 2)) t140))) else ((privityref01_Mul.f k x0 x1 x1).bind fun t142 => (privityref01_Pow.l0 k x0 t142 (IntKind.u64.wrap (Int.tdiv x2 2)) x7))) else (some x7)
def privityref01_Pow.f (k : Nat) (a0 : Int) (a1 : Int) (a2 : Int) : Option (Int) := privityref01_Pow.l0 k a0 a1 a2 1
theorem privityref01_Pow.mono_l : ∀ k,(∀ y0 y1 y2 y3,LeO (privityref01_Pow.l0 k y0 y1 y2 y3) (privityref01_Pow.l0 (k + 1) y0 y1 y2 y3))
 | 0 => fun _ _ _ _ r h => by simp [privityref01_Pow.l0] at h
 | k + 1 => by
  have ih0 := privityref01_Pow.mono_l k
  ·intro y0 y1 y2 y3
   unfold privityref01_Pow.l0
   repeat' first
   | (with_reducible exact ih0 _ _ _ _)
   | (with_reducible exact privityref01_Mul.mono _ _ _ _)
   | (with_reducible exact LeO.refl _)
   | (with_reducible exact LeO.none _)
   | (with_reducible refine LeO.ite ?_ ?_)
   | (with_reducible refine LeO.bind ?_ (fun _ => ?_))
   | exact ih0 _ _ _ _
   | exact privityref01_Mul.mono _ _ _ _
   | exact LeO.none _
   | refine LeO.ite ?_ ?_
   | refine LeO.bind ?_ (fun _ => ?_)
set_option maxHeartbeats 8000000 in
set_option maxRecDepth 100000 in
theorem privityref01_Pow.calls (k : Nat) (a0 : Int) (a1 : Int) (a2 : Int) (r : Int) (w : World) (h : privityref01_Pow.f k a0 a1 a2 = some r) :
  Calls Try.prog 104 #[.int .u64 a0,.int .u64 a1,.int .u64 a2] w fun e w' => e = .returned (.int .u64 r) ∧ Drawn0 w w' := by
 have H : (privityref01_Pow.l0 k a0 a1 a2 1) = some r := h
 clear h
 have H' := am H
 clear H
 go_enter Try.func104,Try.ntmps104
 go_wp2
 go_loopg [1,2,7] k (fun kq v1 v2 v7 w' => ∃ (x1_1 : Int) (x2_1 : Int) (x7_1 : Int),v1 = .int .u64 x1_1 ∧ v2 = .int .u64 x2_1 ∧ v7 = .int .u64 x7_1 ∧ Aside0 (privityref01_Pow.l0 kq a0 x1_1 x2_1 x7_1 = some r) ∧ Aside0 (kq ≤ k) ∧ Drawn0 w w')
 case atStart => exact ⟨(a1),(a2),(1),(by first|rfl|(simp;done)|(simp [*];done)),(by first|rfl|(simp;done)|(simp [*];done)),(by first|rfl|(simp;done)|(simp [*];done)),H',⟨Nat.le_refl _⟩,by repeat (first|exact Drawn0.refl _|apply Drawn0.step)⟩
 case round =>
  clear H'
  try clear c1
  try clear p2
  obtain ⟨x1_1,x2_1,x7_1,rfl,rfl,rfl,HA,HK1,⟨m1,rfl⟩⟩ := hrel
  cases gk with
  | zero => exact absurd HA.out (by simp [privityref01_Pow.l0])
  | succ k1 =>
   have H := HA.out
   clear HA
   simp only [privityref01_Pow.l0] at H
   by_cases c4 : x2_1 > 0
   ·rw [if_pos c4] at H
    have c4b0 : decide (0 < x2_1) = true := decide_eq_true c4
    clear c4
    by_cases c5 : (Int.tmod x2_1 2) = 1
    ·rw [if_pos c5] at H
     have c5b0 : ((Int.tmod x2_1 2) == 1) = true := beq_iff_eq.mpr c5
     have c5b1 : ((Int.tmod x2_1 2) != 1) = false := bne_eq_false_iff_eq.mpr c5
     clear c5
     replace H := Option.bind_eq_some_iff.mp H
     obtain ⟨t140,A60,H⟩ := H
     try dsimp only at H
     have A6 := am A60
     clear A60
     replace H := Option.bind_eq_some_iff.mp H
     obtain ⟨t141,A70,H⟩ := H
     try dsimp only at H
     have A7 := am A70
     clear A70
     have H' := am H
     clear H
     go_wp2_with (first|((with_reducible refine gate_callee (f := 78) rfl ?_);refine goesL_ (some 16) rfl rfl Try.func78 (by kernel_rfl) rfl #[.int .u64 a0,.int .u64 x7_1,.int .u64 x1_1] rfl (by (try simp only [List.map_toArray,List.map_cons,List.map_nil]);first|done|rfl|(simp only [List.length_drop,List.length_take];rfl)) ?_;(with_reducible refine (privityref01_Mul.calls k1 a0 x7_1 x1_1 t140 _ A6.out).mono ?_);rintro e w' ⟨rfl,⟨nd,rfl⟩⟩;refine ⟨_,rfl,?_⟩)|((with_reducible refine gate_callee (f := 78) rfl ?_);refine goesL_ (some 20) rfl rfl Try.func78 (by kernel_rfl) rfl #[.int .u64 a0,.int .u64 x1_1,.int .u64 x1_1] rfl (by (try simp only [List.map_toArray,List.map_cons,List.map_nil]);first|done|rfl|(simp only [List.length_drop,List.length_take];rfl)) ?_;(with_reducible refine (privityref01_Mul.calls k1 a0 x1_1 x1_1 t141 _ A7.out).mono ?_);rintro e w' ⟨rfl,⟨nd,rfl⟩⟩;refine ⟨_,rfl,?_⟩))
     go_roundg k1
     case measure => have := HK1.out;omega
     case rel => exact ⟨(t141),(IntKind.u64.wrap (Int.tdiv x2_1 2)),(t140),(by first|rfl|(simp;done)|(simp [*];done)),(by first|rfl|(simp;done)|(simp [*];done)),(by first|rfl|(simp;done)|(simp [*];done)),H',⟨by have := HK1.out;omega⟩,by repeat (first|exact Drawn0.refl _|apply Drawn0.step)⟩
    ·rw [if_neg c5] at H
     have c5b0 : ((Int.tmod x2_1 2) == 1) = false := beq_eq_false_iff_ne.mpr c5
     have c5b1 : ((Int.tmod x2_1 2) != 1) = true := bne_iff_ne.mpr c5
     replace H := Option.bind_eq_some_iff.mp H
     obtain ⟨t142,A80,H⟩ := H
     try dsimp only at H
     have A8 := am A80
     clear A80
     have H' := am H
     clear H
     go_wp2_with (first|((with_reducible refine gate_callee (f := 78) rfl ?_);refine goesL_ (some 20) rfl rfl Try.func78 (by kernel_rfl) rfl #[.int .u64 a0,.int .u64 x1_1,.int .u64 x1_1] rfl (by (try simp only [List.map_toArray,List.map_cons,List.map_nil]);first|done|rfl|(simp only [List.length_drop,List.length_take];rfl)) ?_;(with_reducible refine (privityref01_Mul.calls k1 a0 x1_1 x1_1 t142 _ A8.out).mono ?_);rintro e w' ⟨rfl,⟨nd,rfl⟩⟩;refine ⟨_,rfl,?_⟩))
     go_roundg k1
     case measure => have := HK1.out;omega
     case rel => exact ⟨(t142),(IntKind.u64.wrap (Int.tdiv x2_1 2)),(x7_1),(by first|rfl|(simp;done)|(simp [*];done)),(by first|rfl|(simp;done)|(simp [*];done)),(by first|rfl|(simp;done)|(simp [*];done)),H',⟨by have := HK1.out;omega⟩,by repeat (first|exact Drawn0.refl _|apply Drawn0.step)⟩
   ·rw [if_neg c4] at H
    have c4b0 : decide (0 < x2_1) = false := decide_eq_false c4
    clear c4
    obtain rfl := Option.some.inj H
    go_wp2
    go_ret
    exact ⟨by first|rfl|(simp;done)|(simp [*];done),by repeat (first|exact Drawn0.refl _|apply Drawn0.step)⟩
def privityref01_Inverse.f (k : Nat) (a0 : Int) (a1 : Int) : Option (Int × Int) := if a1 = 0 then (some (0,8)) else ((privityref01_Pow.f k a0 a1 (IntKind.u64.wrap (a0 - 2))).bind fun t143 => (some (t143,0)))
set_option maxHeartbeats 8000000 in
set_option maxRecDepth 100000 in
theorem privityref01_Inverse.calls (k : Nat) (a0 : Int) (a1 : Int) (r1 : Int) (r2 : Int) (w : World) (h : privityref01_Inverse.f k a0 a1 = some (r1,r2)) :
  Calls Try.prog 91 #[.int .u64 a0,.int .u64 a1] w fun e w' => e = .returned (.tuple #[.int .u64 r1,.int .i64 r2]) ∧ Drawn0 w w' := by
 have H : (if a1 = 0 then (some (0,8)) else ((privityref01_Pow.f k a0 a1 (IntKind.u64.wrap (a0 - 2))).bind fun t143 => (some (t143,0)))) = some (r1,r2) := h
 clear h
 by_cases c3 : a1 = 0
 ·rw [if_pos c3] at H
  have c3b0 : (a1 == 0) = true := beq_iff_eq.mpr c3
  have c3b1 : (a1 != 0) = false := bne_eq_false_iff_eq.mpr c3
  clear c3
  simp only [Option.some.injEq,Prod.mk.injEq] at H
  obtain ⟨rfl,rfl⟩ := H
  go_enter Try.func91,Try.ntmps91
  go_wp2
  go_ret2
  exact ⟨by first|rfl|(simp;done)|(simp [*];done),by repeat (first|exact Drawn0.refl _|apply Drawn0.step)⟩
 ·rw [if_neg c3] at H
  have c3b0 : (a1 == 0) = false := beq_eq_false_iff_ne.mpr c3
  have c3b1 : (a1 != 0) = true := bne_iff_ne.mpr c3
  replace H := Option.bind_eq_some_iff.mp H
  obtain ⟨t143,A40,H⟩ := H
  try dsimp only at H
  have A4 := am A40
  clear A40
  simp only [Option.some.injEq,Prod.mk.injEq] at H
  obtain ⟨rfl,rfl⟩ := H
  go_enter Try.func91,Try.ntmps91
  go_wp2_with (first|((with_reducible refine gate_callee (f := 104) rfl ?_);refine goesL_ (some 12) rfl rfl Try.func104 (by kernel_rfl) rfl #[.int .u64 a0,.int .u64 a1,.int .u64 (IntKind.u64.wrap (a0 - 2))] rfl (by (try simp only [List.map_toArray,List.map_cons,List.map_nil]);first|done|rfl|(simp only [List.length_drop,List.length_take];rfl)) ?_;(with_reducible refine (privityref01_Pow.calls k a0 a1 (IntKind.u64.wrap (a0 - 2)) t143 _ A4.out).mono ?_);rintro e w' ⟨rfl,⟨nd,rfl⟩⟩;refine ⟨_,rfl,?_⟩))
  go_ret2
  exact ⟨by first|rfl|(simp;done)|(simp [*];done),by repeat (first|exact Drawn0.refl _|apply Drawn0.step)⟩
def privityref01_Add.f (a0 : Int) (a1 : Int) (a2 : Int) : Option (Int) := if a0 = 0 then (none) else (some (Int.tmod (IntKind.u64.wrap (a1 + a2)) a0))
set_option maxHeartbeats 8000000 in
set_option maxRecDepth 100000 in
theorem privityref01_Add.calls (a0 : Int) (a1 : Int) (a2 : Int) (r : Int) (w : World) (h : privityref01_Add.f a0 a1 a2 = some r) :
  Calls Try.prog 77 #[.int .u64 a0,.int .u64 a1,.int .u64 a2] w fun e w' => e = .returned (.int .u64 r) ∧ Drawn0 w w' := by
 have H : (if a0 = 0 then (none) else (some (Int.tmod (IntKind.u64.wrap (a1 + a2)) a0))) = some r := h
 clear h
 by_cases c4 : a0 = 0
 ·rw [if_pos c4] at H
  exact absurd H (by simp)
 ·rw [if_neg c4] at H
  have c4b0 : (a0 == 0) = false := beq_eq_false_iff_ne.mpr c4
  have c4b1 : (a0 != 0) = true := bne_iff_ne.mpr c4
  obtain rfl := Option.some.inj H
  go_enter Try.func77,Try.ntmps77
  go_wp2
  go_ret
  exact ⟨by first|rfl|(simp;done)|(simp [*];done),by repeat (first|exact Drawn0.refl _|apply Drawn0.step)⟩

def privityref05_Places.l0 : Nat → List (S56) → List Int → Int → Option (List Int)
 | 0,_,_,_ => none
 | k + 1,x0,x3,x4 => if x4 < (x0.length : Int) then (if 0 ≤ x4 then (if x3.length < 17592186044416 then (privityref05_Places.l0 k x0 (x3 ++ [(rd_T56 x0 x4).f0]) (wrap64 (x4 + 1))) else (none)) else (none)) else (some x3)
def privityref05_Places.f (k : Nat) (l0 : List (S56)) : Option (List Int) := privityref05_Places.l0 k l0 ([] : List Int) 0
end Go.Proofs.Ytmdoaijkaaaglaa.Pr
end
section
namespace Go.Proofs.Ytmdoaijkaaaglaa.E
open Go.RowKit Go.Proofs.Ytmdoaijkaaaglaa.Pr Go.Proofs.Ytmdoaijkaaaglaa.Hw Go.Proofs.YtmdoaijkaaaglaaW.PrintWords Go.Proofs.YtmdoaijkaaaglaaW.PrintLast Go.Proofs.YtmdoaijkaaaglaaW.PrintMore
theorem wcap {n : Int} (h : 0 ≤ n) (h2 : n < 9223372036854775808) : wrap64 n = n := by unfold wrap64;omega
theorem wnat {n : Nat} (h : n < 1099511627776) : wrap64 ((n : Int) + 1) = ((n + 1 : Nat) : Int) := by rw [wcap (by omega) (by omega)];omega
theorem up {Q : Nat → Prop} {n : Nat} (hn : Q n) (hs : ∀ i,i < n → Q (i + 1) → Q i) : Q 0 := by
 have : ∀ d,d ≤ n → Q (n - d) := by
  intro d
  induction d with
  | zero => intro _;exact hn
  | succ d ih =>
   intro h
   have h1 := ih (by omega)
   refine hs (n - (d + 1)) (by omega) ?_
   rwa [show n - (d + 1) + 1 = n - d from by omega]
 have := this n (Nat.le_refl _)
 rwa [Nat.sub_self] at this
theorem exponent_eq (p : Int) : privityref01_Exponent.f 10 p = if p = 31 then some 5 else if p = 127 then some 7 else if p = 8191 then some 13 else if p = 131071 then some 17 else if p = 524287 then some 19 else if p = 2147483647 then some 31 else if p = 2305843009213693951 then some 61 else some 0 := by kernel_rfl
theorem supported_ev (p : Int) : Ev (fun k => privityref01_Supported.f k p) (supB p) := by
 refine Ev.of (fun k => privityref01_Supported.mono _ _) (k := 10) ?_
 show (privityref01_Exponent.f 10 p).bind _ = _
 rw [exponent_eq]
 unfold supB
 by_cases h1 : p = 31
 ·subst h1;rfl
 by_cases h2 : p = 127
 ·subst h2;rfl
 by_cases h3 : p = 8191
 ·subst h3;rfl
 by_cases h4 : p = 131071
 ·subst h4;rfl
 by_cases h5 : p = 524287
 ·subst h5;rfl
 by_cases h6 : p = 2147483647
 ·subst h6;rfl
 by_cases h7 : p = 2305843009213693951
 ·subst h7;rfl
 rw [if_neg h1,if_neg h2,if_neg h3,if_neg h4,if_neg h5,if_neg h6,if_neg h7]
 simp [h1,h2,h3,h4,h5,h6,h7]
theorem tmod_pos {a p : Int} (h : 0 ≤ a) : Int.tmod a p = a % p := Int.tmod_eq_emod_of_nonneg h
theorem radd_eq {p : Int} (hp : Supp p) {a b : Int} (ha : Res p a) (hb : Res p b) : privityref01_Add.f p a b = some ((a + b) % p) := by
 have := hp.bd
 obtain ⟨a0,a1⟩ := ha
 obtain ⟨b0,b1⟩ := hb
 unfold privityref01_Add.f
 rw [if_neg (by omega),wrapU_id (by omega) (by omega),tmod_pos (by omega)]
theorem rsub_eq {p : Int} (hp : Supp p) {a b : Int} (ha : Res p a) (hb : Res p b) : privityref01_Sub.f p a b = some ((a - b) % p) := by
 have := hp.bd
 obtain ⟨a0,a1⟩ := ha
 obtain ⟨b0,b1⟩ := hb
 unfold privityref01_Sub.f
 rw [if_neg (by omega),wrapU_id (n := a + p) (by omega) (by omega),wrapU_id (by omega) (by omega),tmod_pos (by omega),show a + p - b = a - b + p * 1 from by omega,Int.add_mul_emod_self_left]
theorem rmul_l0 {p : Int} (hp : Supp p) : ∀ (n : Nat) (a out : Int),n < 18446744073709551616 → Res p a → Res p out → Ev (fun k => privityref01_Mul.l0 k p a n out) ((out + a * n) % p) := by
 intro n
 induction n using Nat.strongRecOn with
 | _ n ih =>
  intro a out hn ha ho
  have hb := hp.bd
  obtain ⟨a0,a1⟩ := ha
  obtain ⟨o0,o1⟩ := ho
  by_cases h0 : n = 0
  ·subst h0
   refine Ev.of (fun k => (privityref01_Mul.mono_l k) _ _ _ _) (k := 1) ?_
   simp only [privityref01_Mul.l0]
   rw [if_neg (by omega),Int.natCast_zero,Int.mul_zero,Int.add_zero,Int.emod_eq_of_lt o0 o1]
  ·have e1 : Int.tmod (n : Int) 2 = n % 2 := tmod_pos (by omega)
   have e2 : IntKind.u64.wrap (Int.tdiv (n : Int) 2) = ((n / 2 : Nat) : Int) := by
    rw [Int.tdiv_eq_ediv_of_nonneg (by omega),wrapU_id (by omega) (by omega)];omega
   have e3 : IntKind.u64.wrap (a + a) = a + a := wrapU_id (by omega) (by omega)
   have e4 : IntKind.u64.wrap (out + a) = out + a := wrapU_id (by omega) (by omega)
   have hN : (n : Int) = 2 * ((n / 2 : Nat) : Int) + n % 2 := by omega
   by_cases hodd : n % 2 = 1
   ·have h := ih (n / 2) (by omega) ((a + a) % p) ((out + a) % p) (by omega) (Res.mod hp _) (Res.mod hp _)
    refine Ev.step (fun k => ?_) (f := fun k => privityref01_Mul.l0 k p ((a + a) % p) ((n / 2 : Nat) : Int) ((out + a) % p)) ?_
    ·simp only [privityref01_Mul.l0]
     rw [if_pos (by omega),if_pos (by omega),if_neg (by omega),e2,e3,e4,tmod_pos (by omega),tmod_pos (by omega)]
    ·rw [show (out + a * n) % p = ((out + a) % p + (a + a) % p * ((n / 2 : Nat) : Int)) % p from ?_]
     ·exact h
     ·rw [addm (modm p (out + a)) (mulm (modm p (a + a)) rfl)]
      congr 1
      have : (n : Int) = 2 * ((n / 2 : Nat) : Int) + 1 := by omega
      generalize ((n / 2 : Nat) : Int) = m at *
      rw [this];grind
   ·have h := ih (n / 2) (by omega) ((a + a) % p) out (by omega) (Res.mod hp _) ⟨o0,o1⟩
    refine Ev.step (fun k => ?_) (f := fun k => privityref01_Mul.l0 k p ((a + a) % p) ((n / 2 : Nat) : Int) out) ?_
    ·simp only [privityref01_Mul.l0]
     rw [if_pos (by omega),if_neg (by omega),if_neg (by omega),e2,e3,tmod_pos (by omega)]
    ·rw [show (out + a * n) % p = (out + (a + a) % p * ((n / 2 : Nat) : Int)) % p from ?_]
     ·exact h
     ·rw [addm (a := out) rfl (mulm (modm p (a + a)) rfl)]
      congr 1
      have : (n : Int) = 2 * ((n / 2 : Nat) : Int) := by omega
      generalize ((n / 2 : Nat) : Int) = m at *
      rw [this];grind
theorem rmul_ev {p : Int} (hp : Supp p) {a b : Int} (ha : Res p a) (hb : Res p b) : Ev (fun k => privityref01_Mul.f k p a b) (a * b % p) := by
 have h := hp.bd
 have := rmul_l0 hp b.toNat a 0 (by have := hb.1;have := hb.2;omega) ha ⟨by omega,by omega⟩
 rw [Int.toNat_of_nonneg hb.1,Int.zero_add] at this
 exact this
theorem rpow_l0 {p : Int} (h : Supp p) : ∀ (n : Nat) (a out : Int),n < 18446744073709551616 → Res p a → Res p out → Ev (fun k => privityref01_Pow.l0 k p a n out) (out * a ^ n % p) := by
 intro n
 induction n using Nat.strongRecOn with
 | _ n ih =>
  intro a out hn ha ho
  by_cases h0 : n = 0
  ·subst h0
   refine Ev.of (fun k => (privityref01_Pow.mono_l k) _ _ _ _) (k := 1) ?_
   simp only [privityref01_Pow.l0]
   rw [if_neg (by omega),Int.pow_zero,Int.mul_one,ho.eq]
  ·have hsq := rmul_ev h ha ha
   have hrec := fun out' ho' => ih (n / 2) (by omega) (a * a % p) out' (by omega) (Res.mod h _) ho'
   have eh := pow_two_half a n
   have e1 := pow_mod_base (a * a) p (n / 2)
   have t1 : Int.tmod (n : Int) 2 = n % 2 := tmod_pos (by omega)
   have t2 : IntKind.u64.wrap (Int.tdiv (n : Int) 2) = ((n / 2 : Nat) : Int) := by
    rw [Int.tdiv_eq_ediv_of_nonneg (by omega),wrapU_id (by omega) (by omega)];omega
   by_cases hodd : n % 2 = 1
   ·refine Ev.step (f := fun k => (privityref01_Mul.f k p out a).bind fun t244 => ((privityref01_Mul.f k p a a).bind fun t245 => (privityref01_Pow.l0 k p t245 ((n / 2 : Nat) : Int) t244))) (fun k => ?_) ?_
    ·simp only [privityref01_Pow.l0]
     rw [if_pos (by omega),if_pos (by omega),t2]
    ·refine Ev.bind (rmul_ev h ho ha) (Ev.bind hsq ?_)
     have := hrec (out * a % p) (Res.mod h _)
     rw [show out * a ^ n % p = out * a % p * (a * a % p) ^ (n / 2) % p from ?_]
     ·exact this
     ·rw [mulm (Int.emod_emod_of_dvd (out * a) (Int.dvd_refl p)) e1,eh,hodd,Int.pow_one,Int.mul_assoc,Int.mul_comm a ((a * a) ^ (n / 2))]
   ·refine Ev.step (f := fun k => (privityref01_Mul.f k p a a).bind fun t246 => (privityref01_Pow.l0 k p t246 ((n / 2 : Nat) : Int) out)) (fun k => ?_) ?_
    ·simp only [privityref01_Pow.l0]
     rw [if_pos (by omega),if_neg (by omega),t2]
    ·refine Ev.bind hsq ?_
     have := hrec out ho
     rw [show out * a ^ n % p = out * (a * a % p) ^ (n / 2) % p from ?_]
     ·exact this
     ·rw [mulm (a := out) rfl e1,eh,show n % 2 = 0 from by omega,Int.pow_zero,Int.mul_one]
theorem rinv_ev {p : Int} (h : Supp p) {a : Int} (ha : Res p a) (h0 : a ≠ 0) : Ev (fun k => privityref01_Inverse.f k p a) (invp p a,0) := by
 have := h.bd
 have e := rpow_l0 h (p - 2).toNat a 1 (by omega) ha ⟨by omega,by omega⟩
 rw [Int.one_mul,show ((p - 2).toNat : Int) = p - 2 from Int.toNat_of_nonneg (by omega)] at e
 refine (Ev.bind (f := fun k t => some (t,0)) e (Ev.now _)).congr fun k => ?_
 show (if a = 0 then _ else (privityref01_Pow.f k p a (IntKind.u64.wrap (p - 2))).bind _) = _
 rw [if_neg h0,wrapU_id (by omega) (by omega)]
 rfl
end Go.Proofs.Ytmdoaijkaaaglaa.E
end
section
namespace Go.Proofs.Ytmdoaijkaaaglaa.Pr
open Go.RowKit Go.Proofs.YtmdoaijkaaaglaaW.PrintWords Go.Proofs.YtmdoaijkaaaglaaW.PrintLast Go.Proofs.YtmdoaijkaaaglaaW.PrintMore
attribute [local go_sem] max2_int min2_int max_two min_two max_three min_three max_four min_four
open Go.Proofs.Ytmdoaijkaaaglaa.Hw
mutual
def hyperinvertible_Submatrix.l0 : Nat → List (List Int) → List Int → List (List Int) → List Int → Int → Int → Option ((List (List Int)) × Int)
 | 0,_,_,_,_,_,_ => none
 | k + 1,x0,x2,x8,x14,x15,x16 => if x16 < x15 then (if 0 ≤ x16 then (if x16 < (x14.length : Int) then (if (rd x14 x16) < 0 then (hyperinvertible_Submatrix.j1 k x0 x2 x8 (rd x14 x16) x14 x15 x16 true) else (hyperinvertible_Submatrix.j1 k x0 x2 x8 (rd x14 x16) x14 x15 x16 (decide ((rd x14 x16) ≥ (x0.length : Int))))) else (none)) else (none)) else (some (x8,0))
def hyperinvertible_Submatrix.j1 : Nat → List (List Int) → List Int → List (List Int) → Int → List Int → Int → Int → Bool → Option ((List (List Int)) × Int)
 | 0,_,_,_,_,_,_,_,_ => none
 | k + 1,x0,x2,x8,x10,x14,x15,x16,x27 => if x27 = true then (some (([] : List (List Int)),1)) else (hyperinvertible_Submatrix.l1 k x0 x2 x8 x10 ([] : List Int) x14 x15 x16 x2 (x2.length : Int) 0)
def hyperinvertible_Submatrix.l1 : Nat → List (List Int) → List Int → List (List Int) → Int → List Int → List Int → Int → Int → List Int → Int → Int → Option ((List (List Int)) × Int)
 | 0,_,_,_,_,_,_,_,_,_,_,_ => none
 | k + 1,x0,x2,x8,x10,x11,x14,x15,x16,x28,x29,x30 => if x30 < x29 then (if 0 ≤ x30 then (if x30 < (x28.length : Int) then (if (rd x28 x30) < 0 then (some (([] : List (List Int)),1)) else (if 0 ≤ x10 then (if x10 < (x0.length : Int) then (if (rd x28 x30) ≥ ((rd_L2 x0 x10).length : Int) then (some (([] : List (List Int)),1)) else (if 0 ≤ (rd x28 x30) then (if (rd x28 x30) < ((rd_L2 x0 x10).length : Int) then (if x11.length < 17592186044416 then (hyperinvertible_Submatrix.l1 k x0 x2 x8 x10 (x11 ++ [rd (rd_L2 x0 x10) (rd x28 x30)]) x14 x15 x16 x28 x29 (wrap64 (x30 + 1))) else (none)) else (none)) else (none))) else (none)) else (none))) else (none)) else (none)) else (if x8.length < 5864062014805 then (hyperinvertible_Submatrix.l0 k x0 x2 (x8 ++ [x11]) x14 x15 (wrap64 (x16 + 1))) else (none))
end
def hyperinvertible_Submatrix.f (k : Nat) (l0 : List (List Int)) (l1 : List Int) (l2 : List Int) : Option ((List (List Int)) × Int) := hyperinvertible_Submatrix.l0 k l0 l2 ([] : List (List Int)) l1 (l1.length : Int) 0
set_option maxHeartbeats 8000000 in
set_option maxRecDepth 100000 in
theorem hyperinvertible_Submatrix.calls (k : Nat) (A0 : Option Addr) (c0 : Nat) (l0 : List (List Int)) (A1 : Option Addr) (c1 : Nat) (l1 : List Int) (A2 : Option Addr) (c2 : Nat) (l2 : List Int) (r1 : List (List Int)) (r2 : Int) (w : World) (hr0 : Kd.C (Kd.slice 22 (Kd.int .u64)) w A0 l0.length l0) (hc0 : l0.length ≤ c0) (hr1 : Kd.C (Kd.int .i64) w A1 l1.length l1) (hc1 : l1.length ≤ c1) (hr2 : Kd.C (Kd.int .i64) w A2 l2.length l2) (hc2 : l2.length ≤ c2) (h : hyperinvertible_Submatrix.f k l0 l1 l2 = some (r1,r2)) :
  Calls Try.prog 18 #[.slice A0 l0.length c0,.slice A1 l1.length c1,.slice A2 l2.length c2] w fun e w' => ∃ v0_ : Value,e = .returned (.tuple #[v0_,.int .i64 r2]) ∧ Kd.S (Kd.slice 22 (Kd.int .u64)) 40 w' w.heap.size (fun _ => True) v0_ r1 ∧ Below w.heap.size w w' := by
 have HR0 := am hr0
 have HC0 := am hc0
 clear hr0 hc0
 have HR1 := am hr1
 have HC1 := am hc1
 clear hr1 hc1
 have HR2 := am hr2
 have HC2 := am hc2
 clear hr2 hc2
 have HB := am (Below.refl w.heap.size w)
 have H : (hyperinvertible_Submatrix.l0 k l0 l2 ([] : List (List Int)) l1 (l1.length : Int) 0) = some (r1,r2) := h
 clear h
 have H' := am H
 clear H
 go_enter Try.func18,Try.ntmps18
 go_wp2
 go_loopg [8,16] k (fun kq v8 v16 w' => ∃ (x8_1 : List (List Int)) (x16_1 : Int),v16 = .int .i64 x16_1 ∧ Aside0 (hyperinvertible_Submatrix.l0 kq l0 l2 x8_1 l1 (l1.length : Int) x16_1 = some (r1,r2)) ∧ Aside0 (kq ≤ k) ∧ Aside0 (Kd.S (Kd.slice 22 (Kd.int .u64)) 40 w' w.heap.size (fun _ => True) v8 x8_1) ∧ Aside0 (Below w.heap.size w w'))
 case atStart => exact ⟨(([] : List (List Int))),(0),(by first|rfl|(simp;done)|(simp [*];done)),H',⟨Nat.le_refl _⟩,⟨by first|exact Kd.S_nil _ _ _ _ _|exact Kd.N_nil _ _ _ _ _|exact Kd.V_nil _ _ _ _ _|exact Kd.Q_nil _ _ _ _ _|exact Kd.R_nil _ _ _ _ _⟩,⟨bb HB⟩⟩
 case round =>
  clear H'
  try clear c1
  try clear c2
  try clear p2
  obtain ⟨x8_1,x16_1,rfl,HA,HK1,HO_8,HB⟩ := hrel
  cases gk with
  | zero => exact absurd HA.out (by simp [hyperinvertible_Submatrix.l0])
  | succ k1 =>
   have H := HA.out
   clear HA
   simp only [hyperinvertible_Submatrix.l0] at H
   by_cases c4 : x16_1 < (l1.length : Int)
   ·rw [if_pos c4] at H
    have c4b0 : decide (x16_1 < (l1.length : Int)) = true := decide_eq_true c4
    clear c4
    by_cases c5 : 0 ≤ x16_1
    ·rw [if_pos c5] at H
     have c5b0 : decide (0 ≤ x16_1) = true := decide_eq_true c5
     clear c5
     by_cases c6 : x16_1 < (l1.length : Int)
     ·rw [if_pos c6] at H
      have c6b0 : decide (x16_1 < (l1.length : Int)) = true := decide_eq_true c6
      clear c6
      have HC7 := am H
      clear H
      have p391 : 0 ≤ (x16_1 : Int) := od
      have q391 : x16_1 < (l1.length : Int) := od
      obtain ⟨ad391,e391,hx391_0⟩ := Kd.at_int HR1.out x16_1 p391 q391
      cases e391
      replace hx391_0 := (HB.out.cell (World.block_lt_of_cell? w _ hx391_0)).trans hx391_0
      replace p391 := eq_true p391
      replace q391 := eq_true q391
      go_upto_region 5 with (fail)
      go_cut [27] (fun v27 wc => ∃ (kq : Nat) (x27_6 : Bool),v27 = .bool x27_6 ∧ Aside0 (hyperinvertible_Submatrix.j1 kq l0 l2 x8_1 (rd l1 x16_1) l1 (l1.length : Int) x16_1 x27_6 = some (r1,r2)) ∧ Aside0 (kq ≤ k1) ∧ Aside0 (Kd.S (Kd.slice 22 (Kd.int .u64)) 40 wc w.heap.size (fun _ => True) u8 x8_1) ∧ Aside0 (Below w.heap.size w wc))
      case first =>
       have H := HC7.out
       clear HC7
       by_cases c8 : (rd l1 x16_1) < 0
       ·rw [if_pos c8] at H
        have c8b0 : decide ((rd l1 x16_1) < 0) = true := decide_eq_true c8
        clear c8
        (first|rw [c8b0]|(simp only [i64_w,i32_w];rw [c8b0])|skip)
        have H' := am H
        clear H
        go_wp2
        go_meet
        case rel => exact ⟨_,(true),(by first|rfl|(simp;done)|(simp [*];done)),H',⟨by have := HK1.out;first|omega|exact Nat.le_refl _⟩,⟨by (with_reducible repeat (first|apply Kd.S_alloc|apply Kd.S_drewN|apply Kd.S_drew));exact HO_8.out⟩,⟨bb HB⟩⟩
       ·rw [if_neg c8] at H
        have c8b0 : decide ((rd l1 x16_1) < 0) = false := decide_eq_false c8
        clear c8
        (first|rw [c8b0]|(simp only [i64_w,i32_w];rw [c8b0])|skip)
        have H' := am H
        clear H
        go_wp2
        go_meet
        case rel => exact ⟨_,(decide ((rd l1 x16_1) ≥ (l0.length : Int))),(by first|rfl|(simp;done)|(simp [*];done)),H',⟨by have := HK1.out;first|omega|exact Nat.le_refl _⟩,⟨by (with_reducible repeat (first|apply Kd.S_alloc|apply Kd.S_drewN|apply Kd.S_drew));exact HO_8.out⟩,⟨bb HB⟩⟩
      case rest =>
       clear HC7
       try clear c1
       try clear c2
       try clear p2
       try clear p3
       try clear q3
       try clear hx3
       try clear c4
       try clear c4b0
       try clear c5
       try clear c5b0
       try clear c6
       try clear c6b0
       try clear c8
       try clear c8b0
       try clear hx391_0
       try clear p2
       try clear p391
       try clear q391
       obtain ⟨kq,x27_6,rfl,HA,HJ6,HO_8,HB⟩ := hcut
       cases kq with
       | zero => exact absurd HA.out (by simp [hyperinvertible_Submatrix.j1])
       | succ kj6 =>
        have H := HA.out
        clear HA
        simp only [hyperinvertible_Submatrix.j1] at H
        by_cases c9 : x27_6 = true
        ·subst c9
         rw [if_pos rfl] at H
         simp only [Option.some.injEq,Prod.mk.injEq] at H
         obtain ⟨rfl,rfl⟩ := H
         go_wp2
         go_ret2
         exact ⟨_,by first|rfl|(simp [errW_none,errW_some] <;> rfl)|(simp [*,errW_none,errW_some] <;> rfl),by first|exact Kd.S_nil _ _ _ _ _|exact Kd.N_nil _ _ _ _ _|exact Kd.V_nil _ _ _ _ _|exact Kd.Q_nil _ _ _ _ _|exact Kd.R_nil _ _ _ _ _,bb HB⟩
        ·replace c9 := Bool.eq_false_iff.mpr c9
         subst c9
         rw [if_neg (show ¬ (false = true) by decide)] at H
         have H' := am H
         clear H
         go_wp2
         go_loopg [11,30] kj6 (fun kq v11 v30 w' => ∃ (x11_3 : List Int) (x30_3 : Int),v30 = .int .i64 x30_3 ∧ Aside0 (hyperinvertible_Submatrix.l1 kq l0 l2 x8_1 (rd l1 x16_1) x11_3 l1 (l1.length : Int) x16_1 l2 (l2.length : Int) x30_3 = some (r1,r2)) ∧ Aside0 (kq ≤ kj6) ∧ Aside0 (Kd.S (Kd.slice 22 (Kd.int .u64)) 40 w' w.heap.size (fun k_ => some k_ ≠ (v11 : Value).ownBlock) u8 x8_1) ∧ Aside0 (Kd.R (Kd.int .u64) 22 w' w.heap.size (fun _ => True) v11 x11_3) ∧ Aside0 (Below w.heap.size w w'))
         case atStart => exact ⟨(([] : List Int)),(0),(by first|rfl|(simp;done)|(simp [*];done)),H',⟨Nat.le_refl _⟩,⟨by (with_reducible repeat (first|apply Kd.S_alloc|apply Kd.S_drewN|apply Kd.S_drew));exact Kd.S_mono HO_8.out (fun _ hk => (by simp [Value.ownBlock]))⟩,⟨by first|exact Kd.R_nil _ _ _ _ _|exact Kd.N_nil _ _ _ _ _|exact Kd.V_nil _ _ _ _ _|exact Kd.Q_nil _ _ _ _ _|exact Kd.S_nil _ _ _ _ _⟩,⟨bb HB⟩⟩
         case round =>
          clear H'
          try clear c1
          try clear c2
          try clear p2
          try clear p3
          try clear q3
          try clear hx3
          try clear c4
          try clear c4b0
          try clear c5
          try clear c5b0
          try clear c6
          try clear c6b0
          try clear c8
          try clear c8b0
          try clear c9
          try clear hx391_0
          try clear p2
          try clear p3
          try clear p391
          try clear q3
          try clear q391
          obtain ⟨x11_3,x30_3,rfl,HA,HK3,HO_8,HO_11,HB⟩ := hrel
          cases gk with
          | zero => exact absurd HA.out (by simp [hyperinvertible_Submatrix.l1])
          | succ k3 =>
           have H := HA.out
           clear HA
           simp only [hyperinvertible_Submatrix.l1] at H
           by_cases c10 : x30_3 < (l2.length : Int)
           ·rw [if_pos c10] at H
            have c10b0 : decide (x30_3 < (l2.length : Int)) = true := decide_eq_true c10
            clear c10
            by_cases c11 : 0 ≤ x30_3
            ·rw [if_pos c11] at H
             have c11b0 : decide (0 ≤ x30_3) = true := decide_eq_true c11
             clear c11
             by_cases c12 : x30_3 < (l2.length : Int)
             ·rw [if_pos c12] at H
              have c12b0 : decide (x30_3 < (l2.length : Int)) = true := decide_eq_true c12
              clear c12
              by_cases c13 : (rd l2 x30_3) < 0
              ·rw [if_pos c13] at H
               have c13b0 : decide ((rd l2 x30_3) < 0) = true := decide_eq_true c13
               clear c13
               simp only [Option.some.injEq,Prod.mk.injEq] at H
               obtain ⟨rfl,rfl⟩ := H
               have p392 : 0 ≤ (x30_3 : Int) := od
               have q392 : x30_3 < (l2.length : Int) := od
               obtain ⟨ad392,e392,hx392_0⟩ := Kd.at_int HR2.out x30_3 p392 q392
               cases e392
               replace hx392_0 := (HB.out.cell (World.block_lt_of_cell? w _ hx392_0)).trans hx392_0
               replace p392 := eq_true p392
               replace q392 := eq_true q392
               go_wp2
               go_ret2
               exact ⟨_,by first|rfl|(simp [errW_none,errW_some] <;> rfl)|(simp [*,errW_none,errW_some] <;> rfl),by first|exact Kd.S_nil _ _ _ _ _|exact Kd.N_nil _ _ _ _ _|exact Kd.V_nil _ _ _ _ _|exact Kd.Q_nil _ _ _ _ _|exact Kd.R_nil _ _ _ _ _,bb HB⟩
              ·rw [if_neg c13] at H
               have c13b0 : decide ((rd l2 x30_3) < 0) = false := decide_eq_false c13
               clear c13
               by_cases c14 : 0 ≤ (rd l1 x16_1)
               ·rw [if_pos c14] at H
                have c14b0 : decide (0 ≤ (rd l1 x16_1)) = true := decide_eq_true c14
                clear c14
                by_cases c15 : (rd l1 x16_1) < (l0.length : Int)
                ·rw [if_pos c15] at H
                 have c15b0 : decide ((rd l1 x16_1) < (l0.length : Int)) = true := decide_eq_true c15
                 clear c15
                 by_cases c16 : (rd l2 x30_3) ≥ ((rd_L2 l0 (rd l1 x16_1)).length : Int)
                 ·rw [if_pos c16] at H
                  have c16b0 : decide (((rd_L2 l0 (rd l1 x16_1)).length : Int) ≤ (rd l2 x30_3)) = true := decide_eq_true c16
                  clear c16
                  simp only [Option.some.injEq,Prod.mk.injEq] at H
                  obtain ⟨rfl,rfl⟩ := H
                  have p392 : 0 ≤ (x30_3 : Int) := od
                  have q392 : x30_3 < (l2.length : Int) := od
                  obtain ⟨ad392,e392,hx392_0⟩ := Kd.at_int HR2.out x30_3 p392 q392
                  cases e392
                  replace hx392_0 := (HB.out.cell (World.block_lt_of_cell? w _ hx392_0)).trans hx392_0
                  replace p392 := eq_true p392
                  replace q392 := eq_true q392
                  have p393 : 0 ≤ ((rd l1 x16_1) : Int) := od
                  have q393 : (rd l1 x16_1) < (l0.length : Int) := od
                  obtain ⟨ad393,A393_0,c393_0,e393,hx393_0,hl393_0,hi393_0⟩ := at_L2 HR0.out (rd l1 x16_1) p393 q393
                  cases e393
                  replace hx393_0 := (HB.out.cell (World.block_lt_of_cell? w _ hx393_0)).trans hx393_0
                  have HR393_0 := am hi393_0
                  have HC393_0 := am hl393_0
                  clear hi393_0 hl393_0
                  replace p393 := eq_true p393
                  replace q393 := eq_true q393
                  go_wp2
                  go_ret2
                  exact ⟨_,by first|rfl|(simp [errW_none,errW_some] <;> rfl)|(simp [*,errW_none,errW_some] <;> rfl),by first|exact Kd.S_nil _ _ _ _ _|exact Kd.N_nil _ _ _ _ _|exact Kd.V_nil _ _ _ _ _|exact Kd.Q_nil _ _ _ _ _|exact Kd.R_nil _ _ _ _ _,bb HB⟩
                 ·rw [if_neg c16] at H
                  have c16b0 : decide (((rd_L2 l0 (rd l1 x16_1)).length : Int) ≤ (rd l2 x30_3)) = false := decide_eq_false c16
                  clear c16
                  by_cases c17 : 0 ≤ (rd l2 x30_3)
                  ·rw [if_pos c17] at H
                   have c17b0 : decide (0 ≤ (rd l2 x30_3)) = true := decide_eq_true c17
                   clear c17
                   by_cases c18 : (rd l2 x30_3) < ((rd_L2 l0 (rd l1 x16_1)).length : Int)
                   ·rw [if_pos c18] at H
                    have c18b0 : decide ((rd l2 x30_3) < ((rd_L2 l0 (rd l1 x16_1)).length : Int)) = true := decide_eq_true c18
                    clear c18
                    by_cases c19 : x11_3.length < 17592186044416
                    ·rw [if_pos c19] at H
                     have LMc19 := am c19
                     clear c19
                     obtain ⟨y396,hy396⟩ : ∃ y_ : List Int,y_ = (x11_3 ++ [rd (rd_L2 l0 (rd l1 x16_1)) (rd l2 x30_3)]) := ⟨_,rfl⟩
                     replace H : (hyperinvertible_Submatrix.l1 k3 l0 l2 x8_1 (rd l1 x16_1) y396 l1 (l1.length : Int) x16_1 l2 (l2.length : Int) (wrap64 (x30_3 + 1))) = some (r1,r2) := by first|(rw [hy396];with_reducible exact H)|(have H2_ := (Option.bind_some _ _).symm.trans H;rw [hy396];with_reducible exact H2_)|(have H2_ := (Option.bind_some _ _).symm.trans H;with_reducible exact H2_)|with_reducible exact H|(rw [hy396];exact H)|exact H
                     have Ny396 := am hy396
                     clear hy396
                     have H' := am H
                     clear H
                     have p392 : 0 ≤ (x30_3 : Int) := od
                     have q392 : x30_3 < (l2.length : Int) := od
                     obtain ⟨ad392,e392,hx392_0⟩ := Kd.at_int HR2.out x30_3 p392 q392
                     cases e392
                     replace hx392_0 := (HB.out.cell (World.block_lt_of_cell? w _ hx392_0)).trans hx392_0
                     replace p392 := eq_true p392
                     replace q392 := eq_true q392
                     have p393 : 0 ≤ ((rd l1 x16_1) : Int) := od
                     have q393 : (rd l1 x16_1) < (l0.length : Int) := od
                     obtain ⟨ad393,A393_0,c393_0,e393,hx393_0,hl393_0,hi393_0⟩ := at_L2 HR0.out (rd l1 x16_1) p393 q393
                     cases e393
                     replace hx393_0 := (HB.out.cell (World.block_lt_of_cell? w _ hx393_0)).trans hx393_0
                     have HR393_0 := am hi393_0
                     have HC393_0 := am hl393_0
                     clear hi393_0 hl393_0
                     replace p393 := eq_true p393
                     replace q393 := eq_true q393
                     have p394 : 0 ≤ ((rd l1 x16_1) : Int) := od
                     have q394 : (rd l1 x16_1) < (l0.length : Int) := od
                     obtain ⟨ad394,A394_0,c394_0,e394,hx394_0,hl394_0,hi394_0⟩ := at_L2 HR0.out (rd l1 x16_1) p394 q394
                     obtain rfl : ad393 = ad394 := (by injection e394)
                     replace hx394_0 := (HB.out.cell (World.block_lt_of_cell? w _ hx394_0)).trans hx394_0
                     have HR394_0 := am hi394_0
                     have HC394_0 := am hl394_0
                     clear hi394_0 hl394_0
                     replace p394 := eq_true p394
                     replace q394 := eq_true q394
                     have ea_ := Option.some.inj (hx393_0.symm.trans hx394_0)
                     injection ea_ with ea_ en_ ec_
                     subst ea_
                     subst ec_
                     clear en_
                     have p395 : 0 ≤ ((rd l2 x30_3) : Int) := od
                     have q395 : (rd l2 x30_3) < ((rd_L2 l0 (rd l1 x16_1)).length : Int) := od
                     obtain ⟨ad395,e395,hx395_0⟩ := Kd.at_int HR394_0.out (rd l2 x30_3) p395 q395
                     cases e395
                     replace hx395_0 := (HB.out.cell (World.block_lt_of_cell? w _ hx395_0)).trans hx395_0
                     replace p395 := eq_true p395
                     replace q395 := eq_true q395
                     go_wp2_with (first|((with_reducible refine gate_builtin (b := .append) (xs := #[.tmp 45,.tmp 53]) rfl ?_);(try (refine gate_guard (by rfl) ?_;dsimp only));at_builtin;refine Kd.R_append (Kd.int .u64) (w0 := w) w.heap.size rfl (.tmp 45) (.tmp 53) 40 22 (.int .u64 0) 8 rfl Try.underlying40 info22 rfl (by decide) (by omega) u11 x11_3 (rd (rd_L2 l0 (rd l1 x16_1)) (rd l2 x30_3)) [.int .u64 (rd (rd_L2 l0 (rd l1 x16_1)) (rd l2 x30_3))] (fun _ => True) (fun _ => False) rfl rfl ?aP (fun _ hk => hk.elim) ?aF ?aO ?aB ?aS ?aL ?_;(case aP => exact rfl);(case aB => exact (bb HB));(case aF => exact (fun _ _ => trivial));(case aO => exact (rr HO_11));(case aS => exact (below_size (bb HB)));(case aL => have := LMc19.out;omega);intro v397 w20 ho hb hg hat;rw [← Ny396.out] at ho;have n0_ := am (Kd.S_after (ok := (fun _ => True)) (by (with_reducible repeat (first|apply Kd.S_alloc|apply Kd.S_drewN|apply Kd.S_drew));exact Kd.S_mono HO_8.out (fun _ hk => ⟨trivial,hk⟩)) hg hat);have n1_ := am (hb);have n2_ := am (ho);clear HO_8 HB HO_11;have HO_8 := n0_;have HB := n1_;have HO398 := n2_;clear n0_ n1_ n2_;clear ho hb hg hat))
                     go_roundg k3
                     case measure => have := HK1.out;have := HJ6.out;have := HK3.out;omega
                     case rel => exact ⟨(y396),(wrap64 (x30_3 + 1)),(by first|rfl|(simp;done)|(simp [*];done)),H',⟨by have := HK1.out;have := HJ6.out;have := HK3.out;omega⟩,⟨by (with_reducible repeat (first|apply Kd.S_alloc|apply Kd.S_drewN|apply Kd.S_drew));exact Kd.S_mono HO_8.out (fun _ hk => hk.2)⟩,⟨by (with_reducible repeat (first|apply Kd.R_alloc|apply Kd.R_drewN|apply Kd.R_drew));exact HO398.out⟩,⟨bb HB⟩⟩
                    ·rw [if_neg c19] at H
                     exact absurd H (by simp)
                   ·rw [if_neg c18] at H
                    exact absurd H (by simp)
                  ·rw [if_neg c17] at H
                   exact absurd H (by simp)
                ·rw [if_neg c15] at H
                 exact absurd H (by simp)
               ·rw [if_neg c14] at H
                exact absurd H (by simp)
             ·rw [if_neg c12] at H
              exact absurd H (by simp)
            ·rw [if_neg c11] at H
             exact absurd H (by simp)
           ·rw [if_neg c10] at H
            have c10b0 : decide (x30_3 < (l2.length : Int)) = false := decide_eq_false c10
            clear c10
            by_cases c21 : x8_1.length < 5864062014805
            ·rw [if_pos c21] at H
             have LMc21 := am c21
             clear c21
             obtain ⟨y399,hy399⟩ : ∃ y_ : List (List Int),y_ = (x8_1 ++ [x11_3]) := ⟨_,rfl⟩
             replace H : (hyperinvertible_Submatrix.l0 k3 l0 l2 y399 l1 (l1.length : Int) (wrap64 (x16_1 + 1))) = some (r1,r2) := by first|(rw [hy399];with_reducible exact H)|(have H2_ := (Option.bind_some _ _).symm.trans H;rw [hy399];with_reducible exact H2_)|(have H2_ := (Option.bind_some _ _).symm.trans H;with_reducible exact H2_)|with_reducible exact H|(rw [hy399];exact H)|exact H
             have Ny399 := am hy399
             clear hy399
             have H' := am H
             clear H
             obtain ⟨Ao23,co23,eo23⟩ := Kd.R_slice HO_11.out
             subst eo23
             go_wp2_with (first|((with_reducible refine gate_builtin (b := .append) (xs := #[.tmp 56,.tmp 58]) rfl ?_);(try (refine gate_guard (by rfl) ?_;dsimp only));at_builtin;refine Kd.S_append (Kd.slice 22 (Kd.int .u64)) (w0 := w) w.heap.size rfl (.tmp 56) (.tmp 58) 25 40 (.slice none 0 0) 24 rfl Try.underlying25 info40 rfl (by decide) (by omega) u8 x8_1 x11_3 [.slice Ao23 x11_3.length co23] (fun _ => True) (fun k_ => some k_ = (.slice Ao23 x11_3.length co23 : Value).ownBlock) rfl rfl ?aP (fun k_ hk_ => ((Kd.R_mono (ok' := fun k_ => ((fun _ => True)) k_ ∧ some k_ ≠ (u8 : Value).ownBlock) (Kd.R_apart' (HO_11.out) (Kd.S_typed HO_8.out) (by decide)) (fun k_ hk => ⟨trivial,hk.2⟩))).1 k_ hk_.symm) ?aF ?aO ?aB ?aS ?aL ?_;(case aP => exact Kd.M_row (Kd.R_mono (Kd.R_tight rfl (Kd.R_mono (ok' := fun k_ => ((fun _ => True)) k_ ∧ some k_ ≠ (u8 : Value).ownBlock) (Kd.R_apart' (HO_11.out) (Kd.S_typed HO_8.out) (by decide)) (fun k_ hk => ⟨trivial,hk.2⟩))) (fun _ h_ => h_)));(case aB => exact (bb HB));(case aF => exact (fun _ _ => trivial));(case aO => exact (by (with_reducible repeat (first|apply Kd.S_alloc|apply Kd.S_drewN|apply Kd.S_drew));exact Kd.S_mono HO_8.out (fun k_ hk => ⟨trivial,fun e_ => hk e_⟩)));(case aS => exact (below_size (bb HB)));(case aL => have := LMc21.out;omega);intro v400 w22 ho hb hg hat;rw [← Ny399.out] at ho;have n0_ := am (hb);have n1_ := am (ho);clear HB HO_8 HO_11;have HB := n0_;have HO401 := n1_;clear n0_ n1_;clear ho hb hg hat))
             go_roundg k3
             case measure => have := HK1.out;have := HJ6.out;have := HK3.out;omega
             case rel => exact ⟨(y399),(wrap64 (x16_1 + 1)),(by first|rfl|(simp;done)|(simp [*];done)),H',⟨by have := HK1.out;have := HJ6.out;have := HK3.out;omega⟩,⟨by (with_reducible repeat (first|apply Kd.S_alloc|apply Kd.S_drewN|apply Kd.S_drew));exact HO401.out⟩,⟨bb HB⟩⟩
            ·rw [if_neg c21] at H
             exact absurd H (by simp)
     ·rw [if_neg c6] at H
      exact absurd H (by simp)
    ·rw [if_neg c5] at H
     exact absurd H (by simp)
   ·rw [if_neg c4] at H
    have c4b0 : decide (x16_1 < (l1.length : Int)) = false := decide_eq_false c4
    clear c4
    simp only [Option.some.injEq,Prod.mk.injEq] at H
    obtain ⟨rfl,rfl⟩ := H
    go_wp2
    go_ret2
    exact ⟨_,by first|rfl|(simp [errW_none,errW_some] <;> rfl)|(simp [*,errW_none,errW_some] <;> rfl),by (with_reducible repeat (first|apply Kd.S_alloc|apply Kd.S_drewN|apply Kd.S_drew));exact HO_8.out,bb HB⟩
mutual
def hyperinvertible_flat.j0 : Nat → List (List Int) → Bool → Option (Bool)
 | 0,_,_ => none
 | k + 1,x0,x14 => if x14 = true then (some false) else (hyperinvertible_flat.l0 k x0 x0 (x0.length : Int) 0)
def hyperinvertible_flat.l0 : Nat → List (List Int) → List (List Int) → Int → Int → Option (Bool)
 | 0,_,_,_,_ => none
 | k + 1,x0,x15,x16,x17 => if x17 < x16 then (if 0 ≤ x17 then (if x17 < (x15.length : Int) then (if 0 < (x0.length : Int) then (if ((rd_L2 x15 x17).length : Int) = ((rd_L2 x0 0).length : Int) then (hyperinvertible_flat.l0 k x0 x15 x16 (wrap64 (x17 + 1))) else (some false)) else (none)) else (none)) else (none)) else (some true)
end
def hyperinvertible_flat.f (k : Nat) (l0 : List (List Int)) : Option (Bool) := if (l0.length : Int) = 0 then (hyperinvertible_flat.j0 k l0 true) else (if 0 < (l0.length : Int) then (hyperinvertible_flat.j0 k l0 (((rd_L2 l0 0).length : Int) == 0)) else (none))
set_option maxHeartbeats 8000000 in
set_option maxRecDepth 100000 in
theorem hyperinvertible_flat.calls (k : Nat) (A0 : Option Addr) (c0 : Nat) (l0 : List (List Int)) (r : Bool) (w : World) (hr0 : Kd.C (Kd.slice 22 (Kd.int .u64)) w A0 l0.length l0) (hc0 : l0.length ≤ c0) (h : hyperinvertible_flat.f k l0 = some r) :
  Calls Try.prog 40 #[.slice A0 l0.length c0] w fun e w' => e = .returned (.bool r) ∧ Drawn0 w w' := by
 have HR0 := am hr0
 have HC0 := am hc0
 clear hr0 hc0
 have H : (if (l0.length : Int) = 0 then (hyperinvertible_flat.j0 k l0 true) else (if 0 < (l0.length : Int) then (hyperinvertible_flat.j0 k l0 (((rd_L2 l0 0).length : Int) == 0)) else (none))) = some r := h
 clear h
 have HC2 := am H
 clear H
 go_enter Try.func40,Try.ntmps40
 go_upto_region 1 with (fail)
 go_cut [14] (fun v14 wc => ∃ (kq : Nat) (x14_1 : Bool),v14 = .bool x14_1 ∧ Aside0 (hyperinvertible_flat.j0 kq l0 x14_1 = some r) ∧ Aside0 (kq ≤ k) ∧ Drawn0 w wc)
 case first =>
  have H := HC2.out
  clear HC2
  by_cases c3 : (l0.length : Int) = 0
  ·rw [if_pos c3] at H
   have c3b0 : ((l0.length : Int) == 0) = true := beq_iff_eq.mpr c3
   have c3b1 : ((l0.length : Int) != 0) = false := bne_eq_false_iff_eq.mpr c3
   clear c3
   (first|rw [c3b0]|(simp only [i64_w,i32_w];rw [c3b0])|skip)
   have H' := am H
   clear H
   go_wp2
   go_meet
   case rel => exact ⟨_,(true),(by first|rfl|(simp;done)|(simp [*];done)),H',⟨by first|omega|exact Nat.le_refl _⟩,by repeat (first|exact Drawn0.refl _|apply Drawn0.step)⟩
  ·rw [if_neg c3] at H
   have c3b0 : ((l0.length : Int) == 0) = false := beq_eq_false_iff_ne.mpr c3
   have c3b1 : ((l0.length : Int) != 0) = true := bne_iff_ne.mpr c3
   have c3b2 : ¬ (l0 = []) := fun h_ => c3 (by rw [h_];rfl)
   (first|rw [c3b0]|(simp only [i64_w,i32_w];rw [c3b0])|skip)
   by_cases c4 : 0 < (l0.length : Int)
   ·rw [if_pos c4] at H
    have c4b0 : decide (0 < (l0.length : Int)) = true := decide_eq_true c4
    have c4b1 : decide (0 < l0.length) = true := decide_eq_true (by omega)
    clear c4
    have H' := am H
    clear H
    have p402 : 0 ≤ (0 : Int) := (by omega)
    have q402 : 0 < (l0.length : Int) := od
    obtain ⟨ad402,A402_0,c402_0,e402,hx402_0,hl402_0,hi402_0⟩ := at_L2 HR0.out 0 p402 q402
    cases e402
    have qi402 : (0 < l0.length) = True := eq_true (by omega)
    (try rw [show ((0 : Int)).toNat = 0 from rfl] at hx402_0)
    (try rw [Addr.add_zero'] at hx402_0)
    have HR402_0 := am hi402_0
    have HC402_0 := am hl402_0
    clear hi402_0 hl402_0
    replace p402 := eq_true p402
    replace q402 := eq_true q402
    go_wp2
    go_meet
    case rel => exact ⟨_,((((rd_L2 l0 0).length : Int) == 0)),(by first|rfl|(simp;done)|(simp [*];done)),H',⟨by first|omega|exact Nat.le_refl _⟩,by repeat (first|exact Drawn0.refl _|apply Drawn0.step)⟩
   ·rw [if_neg c4] at H
    exact absurd H (by simp)
 case rest =>
  clear HC2
  try clear p2
  try clear c3
  try clear c3b0
  try clear c3b1
  try clear c3b2
  try clear c4
  try clear c4b0
  try clear c4b1
  try clear p4
  try clear q4
  try clear hx4
  try clear qi4
  try clear hx402_0
  try clear p402
  try clear q402
  obtain ⟨kq,x14_1,rfl,HA,HJ1,⟨mc1,rfl⟩⟩ := hcut
  cases kq with
  | zero => exact absurd HA.out (by simp [hyperinvertible_flat.j0])
  | succ kj1 =>
   have H := HA.out
   clear HA
   simp only [hyperinvertible_flat.j0] at H
   by_cases c5 : x14_1 = true
   ·subst c5
    rw [if_pos rfl] at H
    obtain rfl := Option.some.inj H
    go_wp2
    go_ret
    exact ⟨by first|rfl|(simp;done)|(simp [*];done),by repeat (first|exact Drawn0.refl _|apply Drawn0.step)⟩
   ·replace c5 := Bool.eq_false_iff.mpr c5
    subst c5
    rw [if_neg (show ¬ (false = true) by decide)] at H
    have H' := am H
    clear H
    go_wp2
    go_loopg [17] kj1 (fun kq v17 w' => ∃ (x17_2 : Int),v17 = .int .i64 x17_2 ∧ Aside0 (hyperinvertible_flat.l0 kq l0 l0 (l0.length : Int) x17_2 = some r) ∧ Aside0 (kq ≤ kj1) ∧ Drawn0 w w')
    case atStart => exact ⟨(0),(by first|rfl|(simp;done)|(simp [*];done)),H',⟨Nat.le_refl _⟩,by repeat (first|exact Drawn0.refl _|apply Drawn0.step)⟩
    case round =>
     clear H'
     try clear c1
     try clear p2
     try clear c3
     try clear c3b0
     try clear c3b1
     try clear c3b2
     try clear c4
     try clear c4b0
     try clear c4b1
     try clear p4
     try clear q4
     try clear hx4
     try clear qi4
     try clear c5
     try clear hx402_0
     try clear p2
     try clear p4
     try clear p402
     try clear q4
     try clear q402
     obtain ⟨x17_2,rfl,HA,HK2,⟨m2,rfl⟩⟩ := hrel
     cases gk with
     | zero => exact absurd HA.out (by simp [hyperinvertible_flat.l0])
     | succ k2 =>
      have H := HA.out
      clear HA
      simp only [hyperinvertible_flat.l0] at H
      by_cases c6 : x17_2 < (l0.length : Int)
      ·rw [if_pos c6] at H
       have c6b0 : decide (x17_2 < (l0.length : Int)) = true := decide_eq_true c6
       clear c6
       by_cases c7 : 0 ≤ x17_2
       ·rw [if_pos c7] at H
        have c7b0 : decide (0 ≤ x17_2) = true := decide_eq_true c7
        clear c7
        by_cases c8 : x17_2 < (l0.length : Int)
        ·rw [if_pos c8] at H
         have c8b0 : decide (x17_2 < (l0.length : Int)) = true := decide_eq_true c8
         clear c8
         by_cases c9 : 0 < (l0.length : Int)
         ·rw [if_pos c9] at H
          have c9b0 : decide (0 < (l0.length : Int)) = true := decide_eq_true c9
          have c9b1 : decide (0 < l0.length) = true := decide_eq_true (by omega)
          clear c9
          by_cases c10 : ((rd_L2 l0 x17_2).length : Int) = ((rd_L2 l0 0).length : Int)
          ·rw [if_pos c10] at H
           have c10b0 : (((rd_L2 l0 x17_2).length : Int) == ((rd_L2 l0 0).length : Int)) = true := beq_iff_eq.mpr c10
           have c10b1 : (((rd_L2 l0 x17_2).length : Int) != ((rd_L2 l0 0).length : Int)) = false := bne_eq_false_iff_eq.mpr c10
           have c10b2 : ((rd_L2 l0 x17_2).length == (rd_L2 l0 0).length) = true := by first|simpa using c10|(simp at c10 ⊢;omega)
           clear c10
           have H' := am H
           clear H
           have p403 : 0 ≤ (x17_2 : Int) := od
           have q403 : x17_2 < (l0.length : Int) := od
           obtain ⟨ad403,A403_0,c403_0,e403,hx403_0,hl403_0,hi403_0⟩ := at_L2 HR0.out x17_2 p403 q403
           cases e403
           have HR403_0 := am hi403_0
           have HC403_0 := am hl403_0
           clear hi403_0 hl403_0
           replace p403 := eq_true p403
           replace q403 := eq_true q403
           have p404 : 0 ≤ (0 : Int) := (by omega)
           have q404 : 0 < (l0.length : Int) := od
           obtain ⟨ad404,A404_0,c404_0,e404,hx404_0,hl404_0,hi404_0⟩ := at_L2 HR0.out 0 p404 q404
           obtain rfl : ad403 = ad404 := (by injection e404)
           have qi404 : (0 < l0.length) = True := eq_true (by omega)
           (try rw [show ((0 : Int)).toNat = 0 from rfl] at hx404_0)
           (try rw [Addr.add_zero'] at hx404_0)
           have HR404_0 := am hi404_0
           have HC404_0 := am hl404_0
           clear hi404_0 hl404_0
           replace p404 := eq_true p404
           replace q404 := eq_true q404
           go_wp2
           go_roundg k2
           case measure => have := HJ1.out;have := HK2.out;omega
           case rel => exact ⟨(wrap64 (x17_2 + 1)),(by first|rfl|(simp;done)|(simp [*];done)),H',⟨by have := HJ1.out;have := HK2.out;omega⟩,by repeat (first|exact Drawn0.refl _|apply Drawn0.step)⟩
          ·rw [if_neg c10] at H
           have c10b0 : (((rd_L2 l0 x17_2).length : Int) == ((rd_L2 l0 0).length : Int)) = false := beq_eq_false_iff_ne.mpr c10
           have c10b1 : (((rd_L2 l0 x17_2).length : Int) != ((rd_L2 l0 0).length : Int)) = true := bne_iff_ne.mpr c10
           have c10b2 : ((rd_L2 l0 x17_2).length == (rd_L2 l0 0).length) = false := by first|simpa using c10|(simp at c10 ⊢;omega)
           obtain rfl := Option.some.inj H
           have p403 : 0 ≤ (x17_2 : Int) := od
           have q403 : x17_2 < (l0.length : Int) := od
           obtain ⟨ad403,A403_0,c403_0,e403,hx403_0,hl403_0,hi403_0⟩ := at_L2 HR0.out x17_2 p403 q403
           cases e403
           have HR403_0 := am hi403_0
           have HC403_0 := am hl403_0
           clear hi403_0 hl403_0
           replace p403 := eq_true p403
           replace q403 := eq_true q403
           have p404 : 0 ≤ (0 : Int) := (by omega)
           have q404 : 0 < (l0.length : Int) := od
           obtain ⟨ad404,A404_0,c404_0,e404,hx404_0,hl404_0,hi404_0⟩ := at_L2 HR0.out 0 p404 q404
           obtain rfl : ad403 = ad404 := (by injection e404)
           have qi404 : (0 < l0.length) = True := eq_true (by omega)
           (try rw [show ((0 : Int)).toNat = 0 from rfl] at hx404_0)
           (try rw [Addr.add_zero'] at hx404_0)
           have HR404_0 := am hi404_0
           have HC404_0 := am hl404_0
           clear hi404_0 hl404_0
           replace p404 := eq_true p404
           replace q404 := eq_true q404
           go_wp2
           go_ret
           exact ⟨by first|rfl|(simp;done)|(simp [*];done),by repeat (first|exact Drawn0.refl _|apply Drawn0.step)⟩
         ·rw [if_neg c9] at H
          exact absurd H (by simp)
        ·rw [if_neg c8] at H
         exact absurd H (by simp)
       ·rw [if_neg c7] at H
        exact absurd H (by simp)
      ·rw [if_neg c6] at H
       have c6b0 : decide (x17_2 < (l0.length : Int)) = false := decide_eq_false c6
       clear c6
       obtain rfl := Option.some.inj H
       go_wp2
       go_ret
       exact ⟨by first|rfl|(simp;done)|(simp [*];done),by repeat (first|exact Drawn0.refl _|apply Drawn0.step)⟩
def hyperinvertible_row.l0 : Nat → Int → List Int → Int → List Int → Int → Int → Option (Int)
 | 0,_,_,_,_,_,_ => none
 | k + 1,x0,x2,x7,x10,x11,x12 => if x12 < x11 then (if 0 ≤ x12 then (if x12 < (x10.length : Int) then (if x12 < (x2.length : Int) then ((field_Mul.f k x0 (rd x10 x12) (rd x2 x12)).bind fun t410 => ((field_Add.f k x0 x7 t410).bind fun t411 => (hyperinvertible_row.l0 k x0 x2 t411 x10 x11 (wrap64 (x12 + 1))))) else (none)) else (none)) else (none)) else (some x7)
def hyperinvertible_row.f (k : Nat) (a0 : Int) (l1 : List Int) (l2 : List Int) : Option (Int) := hyperinvertible_row.l0 k a0 l2 0 l1 (l1.length : Int) 0
set_option maxHeartbeats 8000000 in
set_option maxRecDepth 100000 in
theorem hyperinvertible_row.calls (k : Nat) (a0 : Int) (A1 : Option Addr) (c1 : Nat) (l1 : List Int) (A2 : Option Addr) (c2 : Nat) (l2 : List Int) (r : Int) (w : World) (hr1 : Kd.C (Kd.int .u64) w A1 l1.length l1) (hc1 : l1.length ≤ c1) (hr2 : Kd.C (Kd.int .u64) w A2 l2.length l2) (hc2 : l2.length ≤ c2) (h : hyperinvertible_row.f k a0 l1 l2 = some r) :
  Calls Try.prog 45 #[.int .u64 a0,.slice A1 l1.length c1,.slice A2 l2.length c2] w fun e w' => e = .returned (.int .u64 r) ∧ Drawn0 w w' := by
 have HR1 := am hr1
 have HC1 := am hc1
 clear hr1 hc1
 have HR2 := am hr2
 have HC2 := am hc2
 clear hr2 hc2
 have H : (hyperinvertible_row.l0 k a0 l2 0 l1 (l1.length : Int) 0) = some r := h
 clear h
 have H' := am H
 clear H
 go_enter Try.func45,Try.ntmps45
 go_wp2
 go_loopg [7,12] k (fun kq v7 v12 w' => ∃ (x7_1 : Int) (x12_1 : Int),v7 = .int .u64 x7_1 ∧ v12 = .int .i64 x12_1 ∧ Aside0 (hyperinvertible_row.l0 kq a0 l2 x7_1 l1 (l1.length : Int) x12_1 = some r) ∧ Aside0 (kq ≤ k) ∧ Drawn0 w w')
 case atStart => exact ⟨(0),(0),(by first|rfl|(simp;done)|(simp [*];done)),(by first|rfl|(simp;done)|(simp [*];done)),H',⟨Nat.le_refl _⟩,by repeat (first|exact Drawn0.refl _|apply Drawn0.step)⟩
 case round =>
  clear H'
  try clear c1
  try clear c2
  try clear p2
  obtain ⟨x7_1,x12_1,rfl,rfl,HA,HK1,⟨m1,rfl⟩⟩ := hrel
  cases gk with
  | zero => exact absurd HA.out (by simp [hyperinvertible_row.l0])
  | succ k1 =>
   have H := HA.out
   clear HA
   simp only [hyperinvertible_row.l0] at H
   by_cases c4 : x12_1 < (l1.length : Int)
   ·rw [if_pos c4] at H
    have c4b0 : decide (x12_1 < (l1.length : Int)) = true := decide_eq_true c4
    clear c4
    by_cases c5 : 0 ≤ x12_1
    ·rw [if_pos c5] at H
     have c5b0 : decide (0 ≤ x12_1) = true := decide_eq_true c5
     clear c5
     by_cases c6 : x12_1 < (l1.length : Int)
     ·rw [if_pos c6] at H
      have c6b0 : decide (x12_1 < (l1.length : Int)) = true := decide_eq_true c6
      clear c6
      by_cases c7 : x12_1 < (l2.length : Int)
      ·rw [if_pos c7] at H
       have c7b0 : decide (x12_1 < (l2.length : Int)) = true := decide_eq_true c7
       clear c7
       replace H := Option.bind_eq_some_iff.mp H
       obtain ⟨t410,A80,H⟩ := H
       try dsimp only at H
       have A8 := am A80
       clear A80
       replace H := Option.bind_eq_some_iff.mp H
       obtain ⟨t411,A90,H⟩ := H
       try dsimp only at H
       have A9 := am A90
       clear A90
       have H' := am H
       clear H
       have p408 : 0 ≤ (x12_1 : Int) := od
       have q408 : x12_1 < (l1.length : Int) := od
       obtain ⟨ad408,e408,hx408_0⟩ := Kd.at_int HR1.out x12_1 p408 q408
       cases e408
       replace p408 := eq_true p408
       replace q408 := eq_true q408
       have p409 : 0 ≤ (x12_1 : Int) := od
       have q409 : x12_1 < (l2.length : Int) := od
       obtain ⟨ad409,e409,hx409_0⟩ := Kd.at_int HR2.out x12_1 p409 q409
       cases e409
       replace p409 := eq_true p409
       replace q409 := eq_true q409
       go_wp2_with (first|((with_reducible refine gate_callee (f := 27) rfl ?_);refine goesL_ (some 25) rfl rfl Try.func27 (by kernel_rfl) rfl #[.int .u64 a0,.int .u64 (rd l1 x12_1),.int .u64 (rd l2 x12_1)] rfl (by (try simp only [List.map_toArray,List.map_cons,List.map_nil]);first|done|rfl|(simp only [List.length_drop,List.length_take];rfl)) ?_;(with_reducible refine (field_Mul.calls k1 a0 (rd l1 x12_1) (rd l2 x12_1) t410 _ A8.out).mono ?_);rintro e w' ⟨rfl,⟨nd,rfl⟩⟩;refine ⟨_,rfl,?_⟩)|((with_reducible refine gate_callee (f := 26) rfl ?_);refine goesL_ (some 26) rfl rfl Try.func26 (by kernel_rfl) rfl #[.int .u64 a0,.int .u64 x7_1,.int .u64 t410] rfl (by (try simp only [List.map_toArray,List.map_cons,List.map_nil]);first|done|rfl|(simp only [List.length_drop,List.length_take];rfl)) ?_;(with_reducible refine (field_Add.calls k1 a0 x7_1 t410 t411 _ A9.out).mono ?_);rintro e w' ⟨rfl,⟨nd,rfl⟩⟩;refine ⟨_,rfl,?_⟩))
       go_roundg k1
       case measure => have := HK1.out;omega
       case rel => exact ⟨(t411),(wrap64 (x12_1 + 1)),(by first|rfl|(simp;done)|(simp [*];done)),(by first|rfl|(simp;done)|(simp [*];done)),H',⟨by have := HK1.out;omega⟩,by repeat (first|exact Drawn0.refl _|apply Drawn0.step)⟩
      ·rw [if_neg c7] at H
       exact absurd H (by simp)
     ·rw [if_neg c6] at H
      exact absurd H (by simp)
    ·rw [if_neg c5] at H
     exact absurd H (by simp)
   ·rw [if_neg c4] at H
    have c4b0 : decide (x12_1 < (l1.length : Int)) = false := decide_eq_false c4
    clear c4
    obtain rfl := Option.some.inj H
    go_wp2
    go_ret
    exact ⟨by first|rfl|(simp;done)|(simp [*];done),by repeat (first|exact Drawn0.refl _|apply Drawn0.step)⟩
mutual
def privityref07_Submatrix.l0 : Nat → List (List Int) → List Int → List Int → List (List Int) → Int → Option ((List (List Int)) × Int)
 | 0,_,_,_,_,_ => none
 | k + 1,x0,x1,x2,x8,x9 => if x9 < (x1.length : Int) then (if 0 ≤ x9 then (if (rd x1 x9) < 0 then (privityref07_Submatrix.j1 k x0 x1 x2 x8 x9 true) else (privityref07_Submatrix.j1 k x0 x1 x2 x8 x9 (decide ((rd x1 x9) ≥ (x0.length : Int))))) else (none)) else (some (x8,0))
def privityref07_Submatrix.j1 : Nat → List (List Int) → List Int → List Int → List (List Int) → Int → Bool → Option ((List (List Int)) × Int)
 | 0,_,_,_,_,_,_ => none
 | k + 1,x0,x1,x2,x8,x9,x31 => if x31 = true then (some (([] : List (List Int)),1)) else (privityref07_Submatrix.l1 k x0 x1 x2 x8 x9 ([] : List Int) 0)
def privityref07_Submatrix.l1 : Nat → List (List Int) → List Int → List Int → List (List Int) → Int → List Int → Int → Option ((List (List Int)) × Int)
 | 0,_,_,_,_,_,_,_ => none
 | k + 1,x0,x1,x2,x8,x9,x10,x11 => if x11 < (x2.length : Int) then (if 0 ≤ x11 then (if (rd x2 x11) < 0 then (some (([] : List (List Int)),1)) else (if 0 ≤ x9 then (if x9 < (x1.length : Int) then (if 0 ≤ (rd x1 x9) then (if (rd x1 x9) < (x0.length : Int) then (if (rd x2 x11) ≥ ((rd_L2 x0 (rd x1 x9)).length : Int) then (some (([] : List (List Int)),1)) else (if 0 ≤ (rd x2 x11) then (if (rd x2 x11) < ((rd_L2 x0 (rd x1 x9)).length : Int) then (if x10.length < 17592186044416 then (privityref07_Submatrix.l1 k x0 x1 x2 x8 x9 (x10 ++ [rd (rd_L2 x0 (rd x1 x9)) (rd x2 x11)]) (wrap64 (x11 + 1))) else (none)) else (none)) else (none))) else (none)) else (none)) else (none)) else (none))) else (none)) else (if x8.length < 5864062014805 then (privityref07_Submatrix.l0 k x0 x1 x2 (x8 ++ [x10]) (wrap64 (x9 + 1))) else (none))
end
def privityref07_Submatrix.f (k : Nat) (l0 : List (List Int)) (l1 : List Int) (l2 : List Int) : Option ((List (List Int)) × Int) := privityref07_Submatrix.l0 k l0 l1 l2 ([] : List (List Int)) 0
def privityref07_Submatrix.T11 : Bool × List (List Nat × List Nat) := (true,[([],[]),([],[]),([0,1],[0,1]),([2],[2]),([3],[3]),([4],[4]),([5],[5]),([5],[5]),([6,7,5],[5,6,7]),([8,5],[5,8]),([5],[5]),([5],[5]),([5],[5]),([11,12,5],[5,11,12]),([13,5],[5,13]),([10,14,5],[5,10,14]),([15,5],[5,15]),([16,5],[5,16]),([9,17,5],[5,9,17]),([5,18],[5,18])])
def privityref07_Submatrix.B11 : List Nat := [0,0,3,7,15,31,63,63,255,511,63,63,63,6207,14399,31807,64575,130111,262143,524287]
theorem privityref07_Submatrix.tab11 : rtab .any (opsOf Try.f19 11) = privityref07_Submatrix.T11 := by kernel_rfl
theorem privityref07_Submatrix.bits11 : waitsOk privityref07_Submatrix.T11.2 privityref07_Submatrix.B11 = true := by kernel_rfl
def privityref07_Submatrix.T13 : Bool × List (List Nat × List Nat) := (true,[([],[]),([],[]),([],[]),([],[]),([2,3],[2,3]),([4],[4]),([1,5],[1,5]),([6],[6]),([],[]),([],[]),([8,9],[8,9]),([10],[10]),([7,11],[7,11]),([12],[12]),([13],[13]),([0,14],[0,14]),([15,15,0,1,2,3,4,5,6,7,8,9,10,11,12,13,14,15],[0,15])])
def privityref07_Submatrix.B13 : List Nat := [0,0,0,0,12,28,62,126,0,0,768,1792,4094,8190,16382,32767,65535]
theorem privityref07_Submatrix.tab13 : rtab .any (opsOf Try.f19 13) = privityref07_Submatrix.T13 := by kernel_rfl
theorem privityref07_Submatrix.bits13 : waitsOk privityref07_Submatrix.T13.2 privityref07_Submatrix.B13 = true := by kernel_rfl
set_option maxHeartbeats 8000000 in
set_option maxRecDepth 100000 in
theorem privityref07_Submatrix.calls (k : Nat) (A0 : Option Addr) (c0 : Nat) (l0 : List (List Int)) (A1 : Option Addr) (c1 : Nat) (l1 : List Int) (A2 : Option Addr) (c2 : Nat) (l2 : List Int) (r1 : List (List Int)) (r2 : Int) (w : World) (hr0 : Kd.C (Kd.slice 22 (Kd.int .u64)) w A0 l0.length l0) (hc0 : l0.length ≤ c0) (hr1 : Kd.C (Kd.int .i64) w A1 l1.length l1) (hc1 : l1.length ≤ c1) (hr2 : Kd.C (Kd.int .i64) w A2 l2.length l2) (hc2 : l2.length ≤ c2) (h : privityref07_Submatrix.f k l0 l1 l2 = some (r1,r2)) :
  Calls Try.prog 19 #[.slice A0 l0.length c0,.slice A1 l1.length c1,.slice A2 l2.length c2] w fun e w' => ∃ v0_ : Value,e = .returned (.tuple #[v0_,.int .i64 r2]) ∧ Kd.S (Kd.slice 22 (Kd.int .u64)) 40 w' w.heap.size (fun _ => True) v0_ r1 ∧ Below w.heap.size w w' := by
 have HR0 := am hr0
 have HC0 := am hc0
 clear hr0 hc0
 have HR1 := am hr1
 have HC1 := am hc1
 clear hr1 hc1
 have HR2 := am hr2
 have HC2 := am hc2
 clear hr2 hc2
 have HB := am (Below.refl w.heap.size w)
 have H : (privityref07_Submatrix.l0 k l0 l1 l2 ([] : List (List Int)) 0) = some (r1,r2) := h
 clear h
 have H' := am H
 clear H
 go_enter Try.func19,Try.ntmps19
 go_wp2
 go_loopg [8,9] k (fun kq v8 v9 w' => ∃ (x8_1 : List (List Int)) (x9_1 : Int),v9 = .int .i64 x9_1 ∧ Aside0 (privityref07_Submatrix.l0 kq l0 l1 l2 x8_1 x9_1 = some (r1,r2)) ∧ Aside0 (kq ≤ k) ∧ Aside0 (Kd.S (Kd.slice 22 (Kd.int .u64)) 40 w' w.heap.size (fun _ => True) v8 x8_1) ∧ Aside0 (Below w.heap.size w w'))
 case atStart => exact ⟨(([] : List (List Int))),(0),(by first|rfl|(simp;done)|(simp [*];done)),H',⟨Nat.le_refl _⟩,⟨by first|exact Kd.S_nil _ _ _ _ _|exact Kd.N_nil _ _ _ _ _|exact Kd.V_nil _ _ _ _ _|exact Kd.Q_nil _ _ _ _ _|exact Kd.R_nil _ _ _ _ _⟩,⟨bb HB⟩⟩
 case round =>
  clear H'
  try clear c1
  try clear c2
  try clear p2
  obtain ⟨x8_1,x9_1,rfl,HA,HK1,HO_8,HB⟩ := hrel
  cases gk with
  | zero => exact absurd HA.out (by simp [privityref07_Submatrix.l0])
  | succ k1 =>
   have H := HA.out
   clear HA
   simp only [privityref07_Submatrix.l0] at H
   by_cases c4 : x9_1 < (l1.length : Int)
   ·rw [if_pos c4] at H
    have c4b0 : decide (x9_1 < (l1.length : Int)) = true := decide_eq_true c4
    clear c4
    have HC5 := am H
    clear H
    go_upto_region 5 with (fail)
    go_cut [31] (fun v31 wc => ∃ (kq : Nat) (x31_4 : Bool),v31 = .bool x31_4 ∧ Aside0 (privityref07_Submatrix.j1 kq l0 l1 l2 x8_1 x9_1 x31_4 = some (r1,r2)) ∧ Aside0 (kq ≤ k1) ∧ Aside0 (Kd.S (Kd.slice 22 (Kd.int .u64)) 40 wc w.heap.size (fun _ => True) u8 x8_1) ∧ Aside0 (Below w.heap.size w wc))
    case first =>
     have H := HC5.out
     clear HC5
     by_cases c6 : 0 ≤ x9_1
     ·rw [if_pos c6] at H
      have c6b0 : decide (0 ≤ x9_1) = true := decide_eq_true c6
      clear c6
      (first|rw [c6b0]|(simp only [i64_w,i32_w];rw [c6b0])|skip)
      by_cases c7 : (rd l1 x9_1) < 0
      ·rw [if_pos c7] at H
       have c7b0 : decide ((rd l1 x9_1) < 0) = true := decide_eq_true c7
       clear c7
       have H' := am H
       clear H
       have p468 : 0 ≤ (x9_1 : Int) := od
       have q468 : x9_1 < (l1.length : Int) := od
       obtain ⟨ad468,e468,hx468_0⟩ := Kd.at_int HR1.out x9_1 p468 q468
       cases e468
       replace hx468_0 := (HB.out.cell (World.block_lt_of_cell? w _ hx468_0)).trans hx468_0
       replace p468 := eq_true p468
       replace q468 := eq_true q468
       go_wp2
       go_meet
       case rel => exact ⟨_,(true),(by first|rfl|(simp;done)|(simp [*];done)),H',⟨by have := HK1.out;first|omega|exact Nat.le_refl _⟩,⟨by (with_reducible repeat (first|apply Kd.S_alloc|apply Kd.S_drewN|apply Kd.S_drew));exact HO_8.out⟩,⟨bb HB⟩⟩
      ·rw [if_neg c7] at H
       have c7b0 : decide ((rd l1 x9_1) < 0) = false := decide_eq_false c7
       clear c7
       have H' := am H
       clear H
       have p468 : 0 ≤ (x9_1 : Int) := od
       have q468 : x9_1 < (l1.length : Int) := od
       obtain ⟨ad468,e468,hx468_0⟩ := Kd.at_int HR1.out x9_1 p468 q468
       cases e468
       replace hx468_0 := (HB.out.cell (World.block_lt_of_cell? w _ hx468_0)).trans hx468_0
       replace p468 := eq_true p468
       replace q468 := eq_true q468
       have p469 : 0 ≤ (x9_1 : Int) := od
       have q469 : x9_1 < (l1.length : Int) := od
       obtain ⟨ad469,e469,hx469_0⟩ := Kd.at_int HR1.out x9_1 p469 q469
       obtain rfl : ad468 = ad469 := (by injection e469)
       replace hx469_0 := (HB.out.cell (World.block_lt_of_cell? w _ hx469_0)).trans hx469_0
       replace p469 := eq_true p469
       replace q469 := eq_true q469
       go_wp2
       go_meet
       case rel => exact ⟨_,(decide ((rd l1 x9_1) ≥ (l0.length : Int))),(by first|rfl|(simp;done)|(simp [*];done)),H',⟨by have := HK1.out;first|omega|exact Nat.le_refl _⟩,⟨by (with_reducible repeat (first|apply Kd.S_alloc|apply Kd.S_drewN|apply Kd.S_drew));exact HO_8.out⟩,⟨bb HB⟩⟩
     ·rw [if_neg c6] at H
      exact absurd H (by simp)
    case rest =>
     clear HC5
     try clear c1
     try clear c2
     try clear p2
     try clear c4
     try clear c4b0
     try clear p4
     try clear q4
     try clear hx4
     try clear c6
     try clear c6b0
     try clear c7
     try clear c7b0
     try clear hx468_0
     try clear hx469_0
     try clear p2
     try clear p468
     try clear p469
     try clear q468
     try clear q469
     obtain ⟨kq,x31_4,rfl,HA,HJ4,HO_8,HB⟩ := hcut
     cases kq with
     | zero => exact absurd HA.out (by simp [privityref07_Submatrix.j1])
     | succ kj4 =>
      have H := HA.out
      clear HA
      simp only [privityref07_Submatrix.j1] at H
      by_cases c8 : x31_4 = true
      ·subst c8
       rw [if_pos rfl] at H
       simp only [Option.some.injEq,Prod.mk.injEq] at H
       obtain ⟨rfl,rfl⟩ := H
       go_wp2
       go_ret2
       exact ⟨_,by first|rfl|(simp [errW_none,errW_some] <;> rfl)|(simp [*,errW_none,errW_some] <;> rfl),by first|exact Kd.S_nil _ _ _ _ _|exact Kd.N_nil _ _ _ _ _|exact Kd.V_nil _ _ _ _ _|exact Kd.Q_nil _ _ _ _ _|exact Kd.R_nil _ _ _ _ _,bb HB⟩
      ·replace c8 := Bool.eq_false_iff.mpr c8
       subst c8
       rw [if_neg (show ¬ (false = true) by decide)] at H
       have H' := am H
       clear H
       go_wp2
       go_loopg [10,11] kj4 (fun kq v10 v11 w' => ∃ (x10_3 : List Int) (x11_3 : Int),v11 = .int .i64 x11_3 ∧ Aside0 (privityref07_Submatrix.l1 kq l0 l1 l2 x8_1 x9_1 x10_3 x11_3 = some (r1,r2)) ∧ Aside0 (kq ≤ kj4) ∧ Aside0 (Kd.S (Kd.slice 22 (Kd.int .u64)) 40 w' w.heap.size (fun k_ => some k_ ≠ (v10 : Value).ownBlock) u8 x8_1) ∧ Aside0 (Kd.R (Kd.int .u64) 22 w' w.heap.size (fun _ => True) v10 x10_3) ∧ Aside0 (Below w.heap.size w w'))
       case atStart => exact ⟨(([] : List Int)),(0),(by first|rfl|(simp;done)|(simp [*];done)),H',⟨Nat.le_refl _⟩,⟨by (with_reducible repeat (first|apply Kd.S_alloc|apply Kd.S_drewN|apply Kd.S_drew));exact Kd.S_mono HO_8.out (fun _ hk => (by simp [Value.ownBlock]))⟩,⟨by first|exact Kd.R_nil _ _ _ _ _|exact Kd.N_nil _ _ _ _ _|exact Kd.V_nil _ _ _ _ _|exact Kd.Q_nil _ _ _ _ _|exact Kd.S_nil _ _ _ _ _⟩,⟨bb HB⟩⟩
       case round =>
        clear H'
        try clear c1
        try clear c2
        try clear p2
        try clear c4
        try clear c4b0
        try clear p4
        try clear q4
        try clear hx4
        try clear c6
        try clear c6b0
        try clear c7
        try clear c7b0
        try clear c8
        try clear hx468_0
        try clear hx469_0
        try clear p2
        try clear p4
        try clear p468
        try clear p469
        try clear q4
        try clear q468
        try clear q469
        obtain ⟨x10_3,x11_3,rfl,HA,HK3,HO_8,HO_10,HB⟩ := hrel
        cases gk with
        | zero => exact absurd HA.out (by simp [privityref07_Submatrix.l1])
        | succ k3 =>
         have H := HA.out
         clear HA
         simp only [privityref07_Submatrix.l1] at H
         by_cases c9 : x11_3 < (l2.length : Int)
         ·rw [if_pos c9] at H
          have c9b0 : decide (x11_3 < (l2.length : Int)) = true := decide_eq_true c9
          clear c9
          by_cases c10 : 0 ≤ x11_3
          ·rw [if_pos c10] at H
           have c10b0 : decide (0 ≤ x11_3) = true := decide_eq_true c10
           clear c10
           by_cases c11 : (rd l2 x11_3) < 0
           ·rw [if_pos c11] at H
            have c11b0 : decide ((rd l2 x11_3) < 0) = true := decide_eq_true c11
            clear c11
            simp only [Option.some.injEq,Prod.mk.injEq] at H
            obtain ⟨rfl,rfl⟩ := H
            try go_wp2
            have n0_ := am (Kd.S_drew HO_8.out)
            have n1_ := am (Kd.R_drew HO_10.out)
            have n2_ := am (below_drew1 HB.out)
            clear HO_8
            clear HO_10
            clear HB
            have HO_8 := n0_
            have HO_10 := n1_
            have HB := n2_
            clear n0_ n1_ n2_
            have p470 : 0 ≤ (x11_3 : Int) := od
            have q470 : x11_3 < (l2.length : Int) := od
            obtain ⟨ad470,e470,hx470_0⟩ := Kd.at_int HR2.out x11_3 p470 q470
            have hw470_0 := hx470_0
            cases e470
            replace hx470_0 := (HB.out.cell (World.block_lt_of_cell? w _ hx470_0)).trans hx470_0
            replace p470 := eq_true p470
            replace q470 := eq_true q470
            refine start_ (n := 20) (S := fun w' => w'.cell? (ad470.add (x11_3).toNat) = some (.int .i64 (rd l2 x11_3))) (ds := []) (bz 20 0) (by kernel_rfl) rfl rfl (((HB.out.cell (World.block_lt_of_cell? w _ hw470_0)).trans hw470_0)) (fun hHeld => ?_);refine with_tabW privityref07_Submatrix.tab11 privityref07_Submatrix.bits11 (fun HT_ HW_ => ?_)
            generalize wr.drew = w12 at HO_8 HO_10 HB hx470_0 hHeld ⊢
            refine pk 0 38 (bz 20 1) HT_ ?_
            refine pk 1 39 (bz 20 3) HT_ ?_
            refine pk 2 40 (bz 20 7) HT_ ?_
            refine tk 3 41 (bz 20 15) HT_ HW_ hHeld ?_
            refine pk 4 42 (bz 20 31) HT_ ?_
            refine pk 5 43 (bz 20 63) HT_ ?_
            refine pz 6 44 (bz 20 127) HT_ ?_
            refine pz 7 45 (bz 20 255) HT_ ?_
            refine pz 8 46 (bz 20 511) HT_ ?_
            refine pz 9 47 (bz 20 1023) HT_ ?_
            refine pz 10 48 (bz 20 2047) HT_ ?_
            refine pz 11 49 (bz 20 4095) HT_ ?_
            refine pz 12 50 (bz 20 8191) HT_ ?_
            refine pz 13 51 (bz 20 16383) HT_ ?_
            refine pz 14 52 (bz 20 32767) HT_ ?_
            refine pz 15 53 (bz 20 65535) HT_ ?_
            refine pz 16 54 (bz 20 131071) HT_ ?_
            refine pz 17 55 (bz 20 262143) HT_ ?_
            refine pz 18 56 (bz 20 524287) HT_ ?_
            refine pk 19 57 (bz 20 1048575) HT_ ?_
            refine done_ (done_of HT_.out (by kernel_rfl)) ?_
            try go_wp2
            go_ret2
            exact ⟨_,by first|rfl|(simp [errW_none,errW_some] <;> rfl)|(simp [*,errW_none,errW_some] <;> rfl),by first|exact Kd.S_nil _ _ _ _ _|exact Kd.N_nil _ _ _ _ _|exact Kd.V_nil _ _ _ _ _|exact Kd.Q_nil _ _ _ _ _|exact Kd.R_nil _ _ _ _ _,bb HB⟩
           ·rw [if_neg c11] at H
            have c11b0 : decide ((rd l2 x11_3) < 0) = false := decide_eq_false c11
            clear c11
            by_cases c13 : 0 ≤ x9_1
            ·rw [if_pos c13] at H
             have c13b0 : decide (0 ≤ x9_1) = true := decide_eq_true c13
             clear c13
             by_cases c14 : x9_1 < (l1.length : Int)
             ·rw [if_pos c14] at H
              have c14b0 : decide (x9_1 < (l1.length : Int)) = true := decide_eq_true c14
              clear c14
              by_cases c15 : 0 ≤ (rd l1 x9_1)
              ·rw [if_pos c15] at H
               have c15b0 : decide (0 ≤ (rd l1 x9_1)) = true := decide_eq_true c15
               clear c15
               by_cases c16 : (rd l1 x9_1) < (l0.length : Int)
               ·rw [if_pos c16] at H
                have c16b0 : decide ((rd l1 x9_1) < (l0.length : Int)) = true := decide_eq_true c16
                clear c16
                by_cases c17 : (rd l2 x11_3) ≥ ((rd_L2 l0 (rd l1 x9_1)).length : Int)
                ·rw [if_pos c17] at H
                 have c17b0 : decide (((rd_L2 l0 (rd l1 x9_1)).length : Int) ≤ (rd l2 x11_3)) = true := decide_eq_true c17
                 clear c17
                 simp only [Option.some.injEq,Prod.mk.injEq] at H
                 obtain ⟨rfl,rfl⟩ := H
                 try go_wp2
                 have n0_ := am (Kd.S_drew HO_8.out)
                 have n1_ := am (Kd.R_drew HO_10.out)
                 have n2_ := am (below_drew1 HB.out)
                 clear HO_8
                 clear HO_10
                 clear HB
                 have HO_8 := n0_
                 have HO_10 := n1_
                 have HB := n2_
                 clear n0_ n1_ n2_
                 have p470 : 0 ≤ (x11_3 : Int) := od
                 have q470 : x11_3 < (l2.length : Int) := od
                 obtain ⟨ad470,e470,hx470_0⟩ := Kd.at_int HR2.out x11_3 p470 q470
                 have hw470_0 := hx470_0
                 cases e470
                 replace hx470_0 := (HB.out.cell (World.block_lt_of_cell? w _ hx470_0)).trans hx470_0
                 replace p470 := eq_true p470
                 replace q470 := eq_true q470
                 have p471 : 0 ≤ (x11_3 : Int) := od
                 have q471 : x11_3 < (l2.length : Int) := od
                 obtain ⟨ad471,e471,hx471_0⟩ := Kd.at_int HR2.out x11_3 p471 q471
                 have hw471_0 := hx471_0
                 obtain rfl : ad470 = ad471 := (by injection e471)
                 replace hx471_0 := (HB.out.cell (World.block_lt_of_cell? w _ hx471_0)).trans hx471_0
                 replace p471 := eq_true p471
                 replace q471 := eq_true q471
                 have p472 : 0 ≤ (x9_1 : Int) := od
                 have q472 : x9_1 < (l1.length : Int) := od
                 obtain ⟨ad472,e472,hx472_0⟩ := Kd.at_int HR1.out x9_1 p472 q472
                 have hw472_0 := hx472_0
                 cases e472
                 replace hx472_0 := (HB.out.cell (World.block_lt_of_cell? w _ hx472_0)).trans hx472_0
                 replace p472 := eq_true p472
                 replace q472 := eq_true q472
                 have p473 : 0 ≤ ((rd l1 x9_1) : Int) := od
                 have q473 : (rd l1 x9_1) < (l0.length : Int) := od
                 obtain ⟨ad473,A473_0,c473_0,e473,hx473_0,hl473_0,hi473_0⟩ := at_L2 HR0.out (rd l1 x9_1) p473 q473
                 have hw473_0 := hx473_0
                 cases e473
                 replace hx473_0 := (HB.out.cell (World.block_lt_of_cell? w _ hx473_0)).trans hx473_0
                 have HR473_0 := am hi473_0
                 have HC473_0 := am hl473_0
                 clear hi473_0 hl473_0
                 replace p473 := eq_true p473
                 replace q473 := eq_true q473
                 refine start_ (n := 20) (S := fun w' => w'.cell? (ad470.add (x11_3).toNat) = some (.int .i64 (rd l2 x11_3)) ∧ w'.cell? (ad470.add (x11_3).toNat) = some (.int .i64 (rd l2 x11_3)) ∧ w'.cell? (ad472.add (x9_1).toNat) = some (.int .i64 (rd l1 x9_1)) ∧ w'.cell? (ad473.add ((rd l1 x9_1)).toNat) = some (.slice A473_0 (rd_L2 l0 (rd l1 x9_1)).length c473_0)) (ds := []) (bz 20 0) (by kernel_rfl) rfl rfl ⟨((HB.out.cell (World.block_lt_of_cell? w _ hw470_0)).trans hw470_0),((HB.out.cell (World.block_lt_of_cell? w _ hw471_0)).trans hw471_0),((HB.out.cell (World.block_lt_of_cell? w _ hw472_0)).trans hw472_0),((HB.out.cell (World.block_lt_of_cell? w _ hw473_0)).trans hw473_0)⟩ (fun hHeld => ?_);refine with_tabW privityref07_Submatrix.tab11 privityref07_Submatrix.bits11 (fun HT_ HW_ => ?_)
                 generalize wr.drew = w18 at HO_8 HO_10 HB HR473_0 hx470_0 hx471_0 hx472_0 hx473_0 hHeld ⊢
                 refine pk 0 38 (bz 20 1) HT_ ?_
                 refine pk 1 39 (bz 20 3) HT_ ?_
                 refine pk 2 40 (bz 20 7) HT_ ?_
                 refine tk 3 41 (bz 20 15) HT_ HW_ hHeld ?_
                 refine pk 4 42 (bz 20 31) HT_ ?_
                 refine pk 5 43 (bz 20 63) HT_ ?_
                 refine pk 6 44 (bz 20 127) HT_ ?_
                 refine pk 7 45 (bz 20 255) HT_ ?_
                 refine pk 8 46 (bz 20 511) HT_ ?_
                 refine pk 10 48 (bz 20 1535) HT_ ?_
                 refine pk 11 49 (bz 20 3583) HT_ ?_
                 refine pk 12 50 (bz 20 7679) HT_ ?_
                 refine pk 13 51 (bz 20 15871) HT_ ?_
                 refine tk 9 47 (bz 20 16383) HT_ HW_ hHeld ?_
                 refine tk 14 52 (bz 20 32767) HT_ HW_ hHeld ?_
                 refine pk 15 53 (bz 20 65535) HT_ ?_
                 refine tk 16 54 (bz 20 131071) HT_ HW_ hHeld ?_
                 refine pk 17 55 (bz 20 262143) HT_ ?_
                 refine pk 18 56 (bz 20 524287) HT_ ?_
                 refine pk 19 57 (bz 20 1048575) HT_ ?_
                 refine done_ (done_of HT_.out (by kernel_rfl)) ?_
                 try go_wp2
                 go_ret2
                 exact ⟨_,by first|rfl|(simp [errW_none,errW_some] <;> rfl)|(simp [*,errW_none,errW_some] <;> rfl),by first|exact Kd.S_nil _ _ _ _ _|exact Kd.N_nil _ _ _ _ _|exact Kd.V_nil _ _ _ _ _|exact Kd.Q_nil _ _ _ _ _|exact Kd.R_nil _ _ _ _ _,bb HB⟩
                ·rw [if_neg c17] at H
                 have c17b0 : decide (((rd_L2 l0 (rd l1 x9_1)).length : Int) ≤ (rd l2 x11_3)) = false := decide_eq_false c17
                 clear c17
                 by_cases c19 : 0 ≤ (rd l2 x11_3)
                 ·rw [if_pos c19] at H
                  have c19b0 : decide (0 ≤ (rd l2 x11_3)) = true := decide_eq_true c19
                  clear c19
                  by_cases c20 : (rd l2 x11_3) < ((rd_L2 l0 (rd l1 x9_1)).length : Int)
                  ·rw [if_pos c20] at H
                   have c20b0 : decide ((rd l2 x11_3) < ((rd_L2 l0 (rd l1 x9_1)).length : Int)) = true := decide_eq_true c20
                   clear c20
                   by_cases c21 : x10_3.length < 17592186044416
                   ·rw [if_pos c21] at H
                    have LMc21 := am c21
                    clear c21
                    obtain ⟨y478,hy478⟩ : ∃ y_ : List Int,y_ = (x10_3 ++ [rd (rd_L2 l0 (rd l1 x9_1)) (rd l2 x11_3)]) := ⟨_,rfl⟩
                    replace H : (privityref07_Submatrix.l1 k3 l0 l1 l2 x8_1 x9_1 y478 (wrap64 (x11_3 + 1))) = some (r1,r2) := by first|(rw [hy478];with_reducible exact H)|(have H2_ := (Option.bind_some _ _).symm.trans H;rw [hy478];with_reducible exact H2_)|(have H2_ := (Option.bind_some _ _).symm.trans H;with_reducible exact H2_)|with_reducible exact H|(rw [hy478];exact H)|exact H
                    have Ny478 := am hy478
                    clear hy478
                    have H' := am H
                    clear H
                    try go_wp2
                    have n0_ := am (Kd.S_drew HO_8.out)
                    have n1_ := am (Kd.R_drew HO_10.out)
                    have n2_ := am (below_drew1 HB.out)
                    clear HO_8
                    clear HO_10
                    clear HB
                    have HO_8 := n0_
                    have HO_10 := n1_
                    have HB := n2_
                    clear n0_ n1_ n2_
                    have p470 : 0 ≤ (x11_3 : Int) := od
                    have q470 : x11_3 < (l2.length : Int) := od
                    obtain ⟨ad470,e470,hx470_0⟩ := Kd.at_int HR2.out x11_3 p470 q470
                    have hw470_0 := hx470_0
                    cases e470
                    replace hx470_0 := (HB.out.cell (World.block_lt_of_cell? w _ hx470_0)).trans hx470_0
                    replace p470 := eq_true p470
                    replace q470 := eq_true q470
                    have p471 : 0 ≤ (x11_3 : Int) := od
                    have q471 : x11_3 < (l2.length : Int) := od
                    obtain ⟨ad471,e471,hx471_0⟩ := Kd.at_int HR2.out x11_3 p471 q471
                    have hw471_0 := hx471_0
                    obtain rfl : ad470 = ad471 := (by injection e471)
                    replace hx471_0 := (HB.out.cell (World.block_lt_of_cell? w _ hx471_0)).trans hx471_0
                    replace p471 := eq_true p471
                    replace q471 := eq_true q471
                    have p472 : 0 ≤ (x9_1 : Int) := od
                    have q472 : x9_1 < (l1.length : Int) := od
                    obtain ⟨ad472,e472,hx472_0⟩ := Kd.at_int HR1.out x9_1 p472 q472
                    have hw472_0 := hx472_0
                    cases e472
                    replace hx472_0 := (HB.out.cell (World.block_lt_of_cell? w _ hx472_0)).trans hx472_0
                    replace p472 := eq_true p472
                    replace q472 := eq_true q472
                    have p473 : 0 ≤ ((rd l1 x9_1) : Int) := od
                    have q473 : (rd l1 x9_1) < (l0.length : Int) := od
                    obtain ⟨ad473,A473_0,c473_0,e473,hx473_0,hl473_0,hi473_0⟩ := at_L2 HR0.out (rd l1 x9_1) p473 q473
                    have hw473_0 := hx473_0
                    cases e473
                    replace hx473_0 := (HB.out.cell (World.block_lt_of_cell? w _ hx473_0)).trans hx473_0
                    have HR473_0 := am hi473_0
                    have HC473_0 := am hl473_0
                    clear hi473_0 hl473_0
                    replace p473 := eq_true p473
                    replace q473 := eq_true q473
                    refine start_ (n := 20) (S := fun w' => w'.cell? (ad470.add (x11_3).toNat) = some (.int .i64 (rd l2 x11_3)) ∧ w'.cell? (ad470.add (x11_3).toNat) = some (.int .i64 (rd l2 x11_3)) ∧ w'.cell? (ad472.add (x9_1).toNat) = some (.int .i64 (rd l1 x9_1)) ∧ w'.cell? (ad473.add ((rd l1 x9_1)).toNat) = some (.slice A473_0 (rd_L2 l0 (rd l1 x9_1)).length c473_0)) (ds := []) (bz 20 0) (by kernel_rfl) rfl rfl ⟨((HB.out.cell (World.block_lt_of_cell? w _ hw470_0)).trans hw470_0),((HB.out.cell (World.block_lt_of_cell? w _ hw471_0)).trans hw471_0),((HB.out.cell (World.block_lt_of_cell? w _ hw472_0)).trans hw472_0),((HB.out.cell (World.block_lt_of_cell? w _ hw473_0)).trans hw473_0)⟩ (fun hHeld => ?_);refine with_tabW privityref07_Submatrix.tab11 privityref07_Submatrix.bits11 (fun HT_ HW_ => ?_)
                    generalize wr.drew = w22 at HO_8 HO_10 HB HR473_0 hx470_0 hx471_0 hx472_0 hx473_0 hHeld ⊢
                    refine pk 0 38 (bz 20 1) HT_ ?_
                    refine pk 1 39 (bz 20 3) HT_ ?_
                    refine pk 2 40 (bz 20 7) HT_ ?_
                    refine tk 3 41 (bz 20 15) HT_ HW_ hHeld ?_
                    refine pk 4 42 (bz 20 31) HT_ ?_
                    refine pk 5 43 (bz 20 63) HT_ ?_
                    refine pk 6 44 (bz 20 127) HT_ ?_
                    refine pk 7 45 (bz 20 255) HT_ ?_
                    refine pk 8 46 (bz 20 511) HT_ ?_
                    refine pk 10 48 (bz 20 1535) HT_ ?_
                    refine pk 11 49 (bz 20 3583) HT_ ?_
                    refine pk 12 50 (bz 20 7679) HT_ ?_
                    refine pk 13 51 (bz 20 15871) HT_ ?_
                    refine tk 9 47 (bz 20 16383) HT_ HW_ hHeld ?_
                    refine tk 14 52 (bz 20 32767) HT_ HW_ hHeld ?_
                    refine pk 15 53 (bz 20 65535) HT_ ?_
                    refine tk 16 54 (bz 20 131071) HT_ HW_ hHeld ?_
                    refine pk 17 55 (bz 20 262143) HT_ ?_
                    refine pk 18 56 (bz 20 524287) HT_ ?_
                    refine pk 19 57 (bz 20 1048575) HT_ ?_
                    refine done_ (done_of HT_.out (by kernel_rfl)) ?_
                    try go_wp2
                    have n0_ := am (Kd.S_drew HO_8.out)
                    have n1_ := am (Kd.R_drew HO_10.out)
                    have n2_ := am (below_drew1 HB.out)
                    clear HO_8
                    clear HO_10
                    clear HB
                    have HO_8 := n0_
                    have HO_10 := n1_
                    have HB := n2_
                    clear n0_ n1_ n2_
                    have p474 : 0 ≤ (x9_1 : Int) := od
                    have q474 : x9_1 < (l1.length : Int) := od
                    obtain ⟨ad474,e474,hx474_0⟩ := Kd.at_int HR1.out x9_1 p474 q474
                    have hw474_0 := hx474_0
                    obtain rfl : ad472 = ad474 := (by injection e474)
                    replace hx474_0 := (HB.out.cell (World.block_lt_of_cell? w _ hx474_0)).trans hx474_0
                    replace p474 := eq_true p474
                    replace q474 := eq_true q474
                    have p475 : 0 ≤ ((rd l1 x9_1) : Int) := od
                    have q475 : (rd l1 x9_1) < (l0.length : Int) := od
                    obtain ⟨ad475,A475_0,c475_0,e475,hx475_0,hl475_0,hi475_0⟩ := at_L2 HR0.out (rd l1 x9_1) p475 q475
                    have hw475_0 := hx475_0
                    obtain rfl : ad473 = ad475 := (by injection e475)
                    replace hx475_0 := (HB.out.cell (World.block_lt_of_cell? w _ hx475_0)).trans hx475_0
                    have HR475_0 := am hi475_0
                    have HC475_0 := am hl475_0
                    clear hi475_0 hl475_0
                    replace p475 := eq_true p475
                    replace q475 := eq_true q475
                    have p476 : 0 ≤ (x11_3 : Int) := od
                    have q476 : x11_3 < (l2.length : Int) := od
                    obtain ⟨ad476,e476,hx476_0⟩ := Kd.at_int HR2.out x11_3 p476 q476
                    have hw476_0 := hx476_0
                    obtain rfl : ad470 = ad476 := (by injection e476)
                    replace hx476_0 := (HB.out.cell (World.block_lt_of_cell? w _ hx476_0)).trans hx476_0
                    replace p476 := eq_true p476
                    replace q476 := eq_true q476
                    have p477 : 0 ≤ ((rd l2 x11_3) : Int) := od
                    have q477 : (rd l2 x11_3) < ((rd_L2 l0 (rd l1 x9_1)).length : Int) := od
                    obtain ⟨ad477,e477,hx477_0⟩ := Kd.at_int HR475_0.out (rd l2 x11_3) p477 q477
                    have hw477_0 := hx477_0
                    cases e477
                    replace hx477_0 := (HB.out.cell (World.block_lt_of_cell? w _ hx477_0)).trans hx477_0
                    replace p477 := eq_true p477
                    replace q477 := eq_true q477
                    refine start_ (n := 17) (S := fun w' => w'.cell? (ad472.add (x9_1).toNat) = some (.int .i64 (rd l1 x9_1)) ∧ w'.cell? (ad473.add ((rd l1 x9_1)).toNat) = some (.slice (some ad477) (rd_L2 l0 (rd l1 x9_1)).length c475_0) ∧ w'.cell? (ad470.add (x11_3).toNat) = some (.int .i64 (rd l2 x11_3)) ∧ w'.cell? (ad477.add ((rd l2 x11_3)).toNat) = some (.int .u64 (rd (rd_L2 l0 (rd l1 x9_1)) (rd l2 x11_3)))) (ds := []) (bz 17 0) (by kernel_rfl) rfl rfl ⟨((HB.out.cell (World.block_lt_of_cell? w _ hw474_0)).trans hw474_0),((HB.out.cell (World.block_lt_of_cell? w _ hw475_0)).trans hw475_0),((HB.out.cell (World.block_lt_of_cell? w _ hw476_0)).trans hw476_0),((HB.out.cell (World.block_lt_of_cell? w _ hw477_0)).trans hw477_0)⟩ (fun hHeld => ?_);refine with_tabW privityref07_Submatrix.tab13 privityref07_Submatrix.bits13 (fun HT_ HW_ => ?_)
                    generalize w22.drew = w23 at HO_8 HO_10 HB HR475_0 hx474_0 hx475_0 hx476_0 hx477_0 hHeld ⊢
                    refine pk 0 58 (bz 17 1) HT_ ?_
                    refine pk 1 59 (bz 17 3) HT_ ?_
                    refine pk 2 60 (bz 17 7) HT_ ?_
                    refine pk 3 61 (bz 17 15) HT_ ?_
                    refine pk 4 62 (bz 17 31) HT_ ?_
                    refine pk 8 66 (bz 17 287) HT_ ?_
                    refine pk 9 67 (bz 17 799) HT_ ?_
                    refine pk 10 68 (bz 17 1823) HT_ ?_
                    refine tk 5 63 (bz 17 1855) HT_ HW_ hHeld ?_
                    refine pk 6 64 (bz 17 1919) HT_ ?_
                    refine tk 7 65 (bz 17 2047) HT_ HW_ hHeld ?_
                    refine tk 11 69 (bz 17 4095) HT_ HW_ hHeld ?_
                    refine pk 12 70 (bz 17 8191) HT_ ?_
                    refine tk 13 71 (bz 17 16383) HT_ HW_ hHeld ?_
                    refine on 14 72 (bz 17 32767) HT_ (fun K hK => ?_)
                    refine value_ (w1 := ?_) (v := ?_) (by rfl) rfl ?_ ?_
                    rotate_left 2
                    ·go_simp
                     constructor
                     ·rfl
                     ·rfl
                    refine hK.out _ _ ⟨(World.cell?_alloc_lt _ _ _ (World.block_lt_of_cell? _ _ (((HB.out.cell (World.block_lt_of_cell? w _ hw474_0)).trans hw474_0)))).trans (((HB.out.cell (World.block_lt_of_cell? w _ hw474_0)).trans hw474_0)),(World.cell?_alloc_lt _ _ _ (World.block_lt_of_cell? _ _ (((HB.out.cell (World.block_lt_of_cell? w _ hw475_0)).trans hw475_0)))).trans (((HB.out.cell (World.block_lt_of_cell? w _ hw475_0)).trans hw475_0)),(World.cell?_alloc_lt _ _ _ (World.block_lt_of_cell? _ _ (((HB.out.cell (World.block_lt_of_cell? w _ hw476_0)).trans hw476_0)))).trans (((HB.out.cell (World.block_lt_of_cell? w _ hw476_0)).trans hw476_0)),(World.cell?_alloc_lt _ _ _ (World.block_lt_of_cell? _ _ (((HB.out.cell (World.block_lt_of_cell? w _ hw477_0)).trans hw477_0)))).trans (((HB.out.cell (World.block_lt_of_cell? w _ hw477_0)).trans hw477_0))⟩ (fun hHeld => ?_)
                    clear hK K
                    refine nm 72 ?_
                    refine on 15 73 (bz 17 65535) HT_ (fun K hK => ?_)
                    refine Kd.R_append_step (Kd.int .u64) (w0 := w) w.heap.size (by rfl) (.tmp 58) (.tmp 72) 40 22 (.int .u64 0) 8 rfl Try.underlying40 info22 rfl (by decide) (by omega) u10 x10_3 (rd (rd_L2 l0 (rd l1 x9_1)) (rd l2 x11_3)) [.int .u64 (rd (rd_L2 l0 (rd l1 x9_1)) (rd l2 x11_3))] (fun _ => True) (fun _ => False) rfl rfl ?aP (fun _ hk => hk.elim) ?aF ?aO ?aB ?aS ?aL ?_
                    (case aP => exact rfl)
                    (case aB => exact (bb HB))
                    (case aF => exact (fun _ _ => trivial))
                    (case aO => exact (rr HO_10))
                    (case aS => exact (below_size (bb HB)))
                    (case aL => have := LMc21.out;omega)
                    intro v479 w24 ho hb hg hat
                    rw [← Ny478.out] at ho
                    have n0_ := am (Kd.S_after (ok := (fun _ => True)) (by (with_reducible repeat (first|apply Kd.S_alloc|apply Kd.S_drewN|apply Kd.S_drew));exact Kd.S_mono HO_8.out (fun _ hk => ⟨trivial,hk⟩)) hg hat)
                    have n1_ := am (hb)
                    have n2_ := am (ho)
                    clear HO_8
                    clear HB
                    clear HO_10
                    have HO_8 := n0_
                    have HB := n1_
                    have HO480 := n2_
                    clear n0_ n1_ n2_
                    clear ho hb hg hat
                    refine hK.out _ _ ⟨((HB.out.cell (World.block_lt_of_cell? w _ hw474_0)).trans hw474_0),((HB.out.cell (World.block_lt_of_cell? w _ hw475_0)).trans hw475_0),((HB.out.cell (World.block_lt_of_cell? w _ hw476_0)).trans hw476_0),((HB.out.cell (World.block_lt_of_cell? w _ hw477_0)).trans hw477_0)⟩ (fun hHeld => ?_)
                    clear hK K
                    refine nm 73 ?_
                    refine pk 16 10 (bz 17 131071) HT_ ?_
                    refine done_ (done_of HT_.out (by kernel_rfl)) ?_
                    try go_wp2
                    go_roundg k3
                    case measure => have := HK1.out;have := HJ4.out;have := HK3.out;omega
                    case rel => exact ⟨(y478),(wrap64 (x11_3 + 1)),(by first|rfl|(simp;done)|(simp [*];done)),H',⟨by have := HK1.out;have := HJ4.out;have := HK3.out;omega⟩,⟨by (with_reducible repeat (first|apply Kd.S_alloc|apply Kd.S_drewN|apply Kd.S_drew));exact Kd.S_mono HO_8.out (fun _ hk => hk.2)⟩,⟨by (with_reducible repeat (first|apply Kd.R_alloc|apply Kd.R_drewN|apply Kd.R_drew));exact HO480.out⟩,⟨bb HB⟩⟩
                   ·rw [if_neg c21] at H
                    exact absurd H (by simp)
                  ·rw [if_neg c20] at H
                   exact absurd H (by simp)
                 ·rw [if_neg c19] at H
                  exact absurd H (by simp)
               ·rw [if_neg c16] at H
                exact absurd H (by simp)
              ·rw [if_neg c15] at H
               exact absurd H (by simp)
             ·rw [if_neg c14] at H
              exact absurd H (by simp)
            ·rw [if_neg c13] at H
             exact absurd H (by simp)
          ·rw [if_neg c10] at H
           exact absurd H (by simp)
         ·rw [if_neg c9] at H
          have c9b0 : decide (x11_3 < (l2.length : Int)) = false := decide_eq_false c9
          clear c9
          by_cases c25 : x8_1.length < 5864062014805
          ·rw [if_pos c25] at H
           have LMc25 := am c25
           clear c25
           obtain ⟨y481,hy481⟩ : ∃ y_ : List (List Int),y_ = (x8_1 ++ [x10_3]) := ⟨_,rfl⟩
           replace H : (privityref07_Submatrix.l0 k3 l0 l1 l2 y481 (wrap64 (x9_1 + 1))) = some (r1,r2) := by first|(rw [hy481];with_reducible exact H)|(have H2_ := (Option.bind_some _ _).symm.trans H;rw [hy481];with_reducible exact H2_)|(have H2_ := (Option.bind_some _ _).symm.trans H;with_reducible exact H2_)|with_reducible exact H|(rw [hy481];exact H)|exact H
           have Ny481 := am hy481
           clear hy481
           have H' := am H
           clear H
           obtain ⟨Ao27,co27,eo27⟩ := Kd.R_slice HO_10.out
           subst eo27
           go_wp2_with (first|((with_reducible refine gate_builtin (b := .append) (xs := #[.tmp 74,.tmp 76]) rfl ?_);(try (refine gate_guard (by rfl) ?_;dsimp only));at_builtin;refine Kd.S_append (Kd.slice 22 (Kd.int .u64)) (w0 := w) w.heap.size rfl (.tmp 74) (.tmp 76) 25 40 (.slice none 0 0) 24 rfl Try.underlying25 info40 rfl (by decide) (by omega) u8 x8_1 x10_3 [.slice Ao27 x10_3.length co27] (fun _ => True) (fun k_ => some k_ = (.slice Ao27 x10_3.length co27 : Value).ownBlock) rfl rfl ?aP (fun k_ hk_ => ((Kd.R_mono (ok' := fun k_ => ((fun _ => True)) k_ ∧ some k_ ≠ (u8 : Value).ownBlock) (Kd.R_apart' (HO_10.out) (Kd.S_typed HO_8.out) (by decide)) (fun k_ hk => ⟨trivial,hk.2⟩))).1 k_ hk_.symm) ?aF ?aO ?aB ?aS ?aL ?_;(case aP => exact Kd.M_row (Kd.R_mono (Kd.R_tight rfl (Kd.R_mono (ok' := fun k_ => ((fun _ => True)) k_ ∧ some k_ ≠ (u8 : Value).ownBlock) (Kd.R_apart' (HO_10.out) (Kd.S_typed HO_8.out) (by decide)) (fun k_ hk => ⟨trivial,hk.2⟩))) (fun _ h_ => h_)));(case aB => exact (bb HB));(case aF => exact (fun _ _ => trivial));(case aO => exact (by (with_reducible repeat (first|apply Kd.S_alloc|apply Kd.S_drewN|apply Kd.S_drew));exact Kd.S_mono HO_8.out (fun k_ hk => ⟨trivial,fun e_ => hk e_⟩)));(case aS => exact (below_size (bb HB)));(case aL => have := LMc25.out;omega);intro v482 w26 ho hb hg hat;rw [← Ny481.out] at ho;have n0_ := am (hb);have n1_ := am (ho);clear HB HO_8 HO_10;have HB := n0_;have HO483 := n1_;clear n0_ n1_;clear ho hb hg hat))
           go_roundg k3
           case measure => have := HK1.out;have := HJ4.out;have := HK3.out;omega
           case rel => exact ⟨(y481),(wrap64 (x9_1 + 1)),(by first|rfl|(simp;done)|(simp [*];done)),H',⟨by have := HK1.out;have := HJ4.out;have := HK3.out;omega⟩,⟨by (with_reducible repeat (first|apply Kd.S_alloc|apply Kd.S_drewN|apply Kd.S_drew));exact HO483.out⟩,⟨bb HB⟩⟩
          ·rw [if_neg c25] at H
           exact absurd H (by simp)
   ·rw [if_neg c4] at H
    have c4b0 : decide (x9_1 < (l1.length : Int)) = false := decide_eq_false c4
    clear c4
    simp only [Option.some.injEq,Prod.mk.injEq] at H
    obtain ⟨rfl,rfl⟩ := H
    go_wp2
    go_ret2
    exact ⟨_,by first|rfl|(simp [errW_none,errW_some] <;> rfl)|(simp [*,errW_none,errW_some] <;> rfl),by (with_reducible repeat (first|apply Kd.S_alloc|apply Kd.S_drewN|apply Kd.S_drew));exact HO_8.out,bb HB⟩
mutual
def privityref07_places.l0 : Nat → List (S56) → Int → Int → Option (Bool)
 | 0,_,_,_ => none
 | k + 1,x0,x1,x5 => if x5 < (x0.length : Int) then (if 0 ≤ x5 then (if ((rd_T56 x0 x5).f0) ≥ (IntKind.u64.wrap (x1)) then (some false) else (privityref07_places.l1 k x0 x1 x5 0)) else (none)) else (some true)
def privityref07_places.l1 : Nat → List (S56) → Int → Int → Int → Option (Bool)
 | 0,_,_,_,_ => none
 | k + 1,x0,x1,x5,x6 => if x6 < x5 then (if 0 ≤ x5 then (if x5 < (x0.length : Int) then (if 0 ≤ x6 then (if x6 < (x0.length : Int) then (if ((rd_T56 x0 x5).f0) = ((rd_T56 x0 x6).f0) then (some false) else (privityref07_places.l1 k x0 x1 x5 (wrap64 (x6 + 1)))) else (none)) else (none)) else (none)) else (none)) else (privityref07_places.l0 k x0 x1 (wrap64 (x5 + 1)))
end
def privityref07_places.f (k : Nat) (l0 : List (S56)) (a1 : Int) : Option (Bool) := privityref07_places.l0 k l0 a1 0
set_option maxHeartbeats 8000000 in
set_option maxRecDepth 100000 in
theorem privityref07_places.calls (k : Nat) (A0 : Option Addr) (c0 : Nat) (l0 : List (S56)) (a1 : Int) (r : Bool) (w : World) (hr0 : Kd.C k56 w A0 l0.length l0) (hc0 : l0.length ≤ c0) (h : privityref07_places.f k l0 a1 = some r) :
  Calls Try.prog 47 #[.slice A0 l0.length c0,.int .i64 a1] w fun e w' => e = .returned (.bool r) ∧ Drawn0 w w' := by
 have HR0 := am hr0
 have HC0 := am hc0
 clear hr0 hc0
 have H : (privityref07_places.l0 k l0 a1 0) = some r := h
 clear h
 have H' := am H
 clear H
 go_enter Try.func47,Try.ntmps47
 go_wp2
 repeat (go_quiet (fail);try go_wp2)
 go_loopg [5] k (fun kq v5 w' => ∃ (x5_1 : Int),v5 = .int .i64 x5_1 ∧ Aside0 (privityref07_places.l0 kq l0 a1 x5_1 = some r) ∧ Aside0 (kq ≤ k) ∧ Drawn0 w w')
 case atStart => exact ⟨(0),(by first|rfl|(simp;done)|(simp [*];done)),H',⟨Nat.le_refl _⟩,by repeat (first|exact Drawn0.refl _|apply Drawn0.step)⟩
 case round =>
  clear H'
  try clear p2
  obtain ⟨x5_1,rfl,HA,HK1,⟨m1,rfl⟩⟩ := hrel
  cases gk with
  | zero => exact absurd HA.out (by simp [privityref07_places.l0])
  | succ k1 =>
   have H := HA.out
   clear HA
   simp only [privityref07_places.l0] at H
   by_cases c3 : x5_1 < (l0.length : Int)
   ·rw [if_pos c3] at H
    have c3b0 : decide (x5_1 < (l0.length : Int)) = true := decide_eq_true c3
    clear c3
    by_cases c4 : 0 ≤ x5_1
    ·rw [if_pos c4] at H
     have c4b0 : decide (0 ≤ x5_1) = true := decide_eq_true c4
     clear c4
     by_cases c5 : ((rd_T56 l0 x5_1).f0) ≥ (IntKind.u64.wrap (a1))
     ·rw [if_pos c5] at H
      have c5b0 : decide ((IntKind.u64.wrap (a1)) ≤ ((rd_T56 l0 x5_1).f0)) = true := decide_eq_true c5
      clear c5
      obtain rfl := Option.some.inj H
      have p487 : 0 ≤ (x5_1 : Int) := od
      have q487 : x5_1 < (l0.length : Int) := od
      obtain ⟨ad487,e487,hx487_0,hx487_1⟩ := at_T56 HR0.out x5_1 p487 q487
      cases e487
      replace p487 := eq_true p487
      replace q487 := eq_true q487
      go_wp2
      repeat (go_quiet (fail);try go_wp2)
      go_ret
      exact ⟨by first|rfl|(simp;done)|(simp [*];done),by repeat (first|exact Drawn0.refl _|apply Drawn0.step)⟩
     ·rw [if_neg c5] at H
      have c5b0 : decide ((IntKind.u64.wrap (a1)) ≤ ((rd_T56 l0 x5_1).f0)) = false := decide_eq_false c5
      clear c5
      have H' := am H
      clear H
      have p487 : 0 ≤ (x5_1 : Int) := od
      have q487 : x5_1 < (l0.length : Int) := od
      obtain ⟨ad487,e487,hx487_0,hx487_1⟩ := at_T56 HR0.out x5_1 p487 q487
      cases e487
      replace p487 := eq_true p487
      replace q487 := eq_true q487
      go_wp2
      repeat (go_quiet (fail);try go_wp2)
      go_loopg [6] k1 (fun kq v6 w' => ∃ (x6_2 : Int),v6 = .int .i64 x6_2 ∧ Aside0 (privityref07_places.l1 kq l0 a1 x5_1 x6_2 = some r) ∧ Aside0 (kq ≤ k1) ∧ Drawn0 w w')
      case atStart => exact ⟨(0),(by first|rfl|(simp;done)|(simp [*];done)),H',⟨Nat.le_refl _⟩,by repeat (first|exact Drawn0.refl _|apply Drawn0.step)⟩
      case round =>
       clear H'
       try clear p2
       try clear c3
       try clear c3b0
       try clear c4
       try clear c4b0
       try clear p4
       try clear q4
       try clear hx4
       try clear c5
       try clear c5b0
       try clear hx487_0
       try clear hx487_1
       try clear p2
       try clear p487
       try clear q487
       obtain ⟨x6_2,rfl,HA,HK2,⟨m2,rfl⟩⟩ := hrel
       cases gk with
       | zero => exact absurd HA.out (by simp [privityref07_places.l1])
       | succ k2 =>
        have H := HA.out
        clear HA
        simp only [privityref07_places.l1] at H
        by_cases c6 : x6_2 < x5_1
        ·rw [if_pos c6] at H
         have c6b0 : decide (x6_2 < x5_1) = true := decide_eq_true c6
         clear c6
         by_cases c7 : 0 ≤ x5_1
         ·rw [if_pos c7] at H
          have c7b0 : decide (0 ≤ x5_1) = true := decide_eq_true c7
          clear c7
          by_cases c8 : x5_1 < (l0.length : Int)
          ·rw [if_pos c8] at H
           have c8b0 : decide (x5_1 < (l0.length : Int)) = true := decide_eq_true c8
           clear c8
           by_cases c9 : 0 ≤ x6_2
           ·rw [if_pos c9] at H
            have c9b0 : decide (0 ≤ x6_2) = true := decide_eq_true c9
            clear c9
            by_cases c10 : x6_2 < (l0.length : Int)
            ·rw [if_pos c10] at H
             have c10b0 : decide (x6_2 < (l0.length : Int)) = true := decide_eq_true c10
             clear c10
             by_cases c11 : ((rd_T56 l0 x5_1).f0) = ((rd_T56 l0 x6_2).f0)
             ·rw [if_pos c11] at H
              have c11b0 : (((rd_T56 l0 x5_1).f0) == ((rd_T56 l0 x6_2).f0)) = true := beq_iff_eq.mpr c11
              have c11b1 : (((rd_T56 l0 x5_1).f0) != ((rd_T56 l0 x6_2).f0)) = false := bne_eq_false_iff_eq.mpr c11
              clear c11
              obtain rfl := Option.some.inj H
              have p488 : 0 ≤ (x5_1 : Int) := od
              have q488 : x5_1 < (l0.length : Int) := od
              obtain ⟨ad488,e488,hx488_0,hx488_1⟩ := at_T56 HR0.out x5_1 p488 q488
              obtain rfl : ad487 = ad488 := (by injection e488)
              replace p488 := eq_true p488
              replace q488 := eq_true q488
              have p489 : 0 ≤ (x6_2 : Int) := od
              have q489 : x6_2 < (l0.length : Int) := od
              obtain ⟨ad489,e489,hx489_0,hx489_1⟩ := at_T56 HR0.out x6_2 p489 q489
              obtain rfl : ad487 = ad489 := (by injection e489)
              replace p489 := eq_true p489
              replace q489 := eq_true q489
              go_wp2
              repeat (go_quiet (fail);try go_wp2)
              go_ret
              exact ⟨by first|rfl|(simp;done)|(simp [*];done),by repeat (first|exact Drawn0.refl _|apply Drawn0.step)⟩
             ·rw [if_neg c11] at H
              have c11b0 : (((rd_T56 l0 x5_1).f0) == ((rd_T56 l0 x6_2).f0)) = false := beq_eq_false_iff_ne.mpr c11
              have c11b1 : (((rd_T56 l0 x5_1).f0) != ((rd_T56 l0 x6_2).f0)) = true := bne_iff_ne.mpr c11
              have H' := am H
              clear H
              have p488 : 0 ≤ (x5_1 : Int) := od
              have q488 : x5_1 < (l0.length : Int) := od
              obtain ⟨ad488,e488,hx488_0,hx488_1⟩ := at_T56 HR0.out x5_1 p488 q488
              obtain rfl : ad487 = ad488 := (by injection e488)
              replace p488 := eq_true p488
              replace q488 := eq_true q488
              have p489 : 0 ≤ (x6_2 : Int) := od
              have q489 : x6_2 < (l0.length : Int) := od
              obtain ⟨ad489,e489,hx489_0,hx489_1⟩ := at_T56 HR0.out x6_2 p489 q489
              obtain rfl : ad487 = ad489 := (by injection e489)
              replace p489 := eq_true p489
              replace q489 := eq_true q489
              go_wp2
              repeat (go_quiet (fail);try go_wp2)
              go_roundg k2
              case measure => have := HK1.out;have := HK2.out;omega
              case rel => exact ⟨(wrap64 (x6_2 + 1)),(by first|rfl|(simp;done)|(simp [*];done)),H',⟨by have := HK1.out;have := HK2.out;omega⟩,by repeat (first|exact Drawn0.refl _|apply Drawn0.step)⟩
            ·rw [if_neg c10] at H
             exact absurd H (by simp)
           ·rw [if_neg c9] at H
            exact absurd H (by simp)
          ·rw [if_neg c8] at H
           exact absurd H (by simp)
         ·rw [if_neg c7] at H
          exact absurd H (by simp)
        ·rw [if_neg c6] at H
         have c6b0 : decide (x6_2 < x5_1) = false := decide_eq_false c6
         clear c6
         have H' := am H
         clear H
         go_wp2
         repeat (go_quiet (fail);try go_wp2)
         go_roundg k2
         case measure => have := HK1.out;have := HK2.out;omega
         case rel => exact ⟨(wrap64 (x5_1 + 1)),(by first|rfl|(simp;done)|(simp [*];done)),H',⟨by have := HK1.out;have := HK2.out;omega⟩,by repeat (first|exact Drawn0.refl _|apply Drawn0.step)⟩
    ·rw [if_neg c4] at H
     exact absurd H (by simp)
   ·rw [if_neg c3] at H
    have c3b0 : decide (x5_1 < (l0.length : Int)) = false := decide_eq_false c3
    clear c3
    obtain rfl := Option.some.inj H
    go_wp2
    repeat (go_quiet (fail);try go_wp2)
    go_ret
    exact ⟨by first|rfl|(simp;done)|(simp [*];done),by repeat (first|exact Drawn0.refl _|apply Drawn0.step)⟩
def privityref07_dot.l0 : Nat → Int → List Int → List Int → Int → Int → Option (Int)
 | 0,_,_,_,_,_ => none
 | k + 1,x0,x1,x2,x7,x8 => if x8 < (x1.length : Int) then (if 0 ≤ x8 then (if x8 < (x2.length : Int) then ((privityref01_Mul.f k x0 (rd x1 x8) (rd x2 x8)).bind fun t492 => ((privityref01_Add.f x0 x7 t492).bind fun t493 => (privityref07_dot.l0 k x0 x1 x2 t493 (wrap64 (x8 + 1))))) else (none)) else (none)) else (some x7)
def privityref07_dot.f (k : Nat) (a0 : Int) (l1 : List Int) (l2 : List Int) : Option (Int) := privityref07_dot.l0 k a0 l1 l2 0 0
set_option maxHeartbeats 8000000 in
set_option maxRecDepth 100000 in
theorem privityref07_dot.calls (k : Nat) (a0 : Int) (A1 : Option Addr) (c1 : Nat) (l1 : List Int) (A2 : Option Addr) (c2 : Nat) (l2 : List Int) (r : Int) (w : World) (hr1 : Kd.C (Kd.int .u64) w A1 l1.length l1) (hc1 : l1.length ≤ c1) (hr2 : Kd.C (Kd.int .u64) w A2 l2.length l2) (hc2 : l2.length ≤ c2) (h : privityref07_dot.f k a0 l1 l2 = some r) :
  Calls Try.prog 49 #[.int .u64 a0,.slice A1 l1.length c1,.slice A2 l2.length c2] w fun e w' => e = .returned (.int .u64 r) ∧ Drawn0 w w' := by
 have HR1 := am hr1
 have HC1 := am hc1
 clear hr1 hc1
 have HR2 := am hr2
 have HC2 := am hc2
 clear hr2 hc2
 have H : (privityref07_dot.l0 k a0 l1 l2 0 0) = some r := h
 clear h
 have H' := am H
 clear H
 go_enter Try.func49,Try.ntmps49
 go_wp2
 repeat (go_quiet (fail);try go_wp2)
 go_loopg [7,8] k (fun kq v7 v8 w' => ∃ (x7_1 : Int) (x8_1 : Int),v7 = .int .u64 x7_1 ∧ v8 = .int .i64 x8_1 ∧ Aside0 (privityref07_dot.l0 kq a0 l1 l2 x7_1 x8_1 = some r) ∧ Aside0 (kq ≤ k) ∧ Drawn0 w w')
 case atStart => exact ⟨(0),(0),(by first|rfl|(simp;done)|(simp [*];done)),(by first|rfl|(simp;done)|(simp [*];done)),H',⟨Nat.le_refl _⟩,by repeat (first|exact Drawn0.refl _|apply Drawn0.step)⟩
 case round =>
  clear H'
  try clear c1
  try clear c2
  try clear p2
  obtain ⟨x7_1,x8_1,rfl,rfl,HA,HK1,⟨m1,rfl⟩⟩ := hrel
  cases gk with
  | zero => exact absurd HA.out (by simp [privityref07_dot.l0])
  | succ k1 =>
   have H := HA.out
   clear HA
   simp only [privityref07_dot.l0] at H
   by_cases c4 : x8_1 < (l1.length : Int)
   ·rw [if_pos c4] at H
    have c4b0 : decide (x8_1 < (l1.length : Int)) = true := decide_eq_true c4
    clear c4
    by_cases c5 : 0 ≤ x8_1
    ·rw [if_pos c5] at H
     have c5b0 : decide (0 ≤ x8_1) = true := decide_eq_true c5
     clear c5
     by_cases c6 : x8_1 < (l2.length : Int)
     ·rw [if_pos c6] at H
      have c6b0 : decide (x8_1 < (l2.length : Int)) = true := decide_eq_true c6
      clear c6
      replace H := Option.bind_eq_some_iff.mp H
      obtain ⟨t492,A70,H⟩ := H
      try dsimp only at H
      have A7 := am A70
      clear A70
      replace H := Option.bind_eq_some_iff.mp H
      obtain ⟨t493,A80,H⟩ := H
      try dsimp only at H
      have A8 := am A80
      clear A80
      have H' := am H
      clear H
      have p490 : 0 ≤ (x8_1 : Int) := od
      have q490 : x8_1 < (l1.length : Int) := od
      obtain ⟨ad490,e490,hx490_0⟩ := Kd.at_int HR1.out x8_1 p490 q490
      cases e490
      replace p490 := eq_true p490
      replace q490 := eq_true q490
      have p491 : 0 ≤ (x8_1 : Int) := od
      have q491 : x8_1 < (l2.length : Int) := od
      obtain ⟨ad491,e491,hx491_0⟩ := Kd.at_int HR2.out x8_1 p491 q491
      cases e491
      replace p491 := eq_true p491
      replace q491 := eq_true q491
      go_wp2_with (first|(go_at_call 78;(with_reducible refine (privityref01_Mul.calls k1 a0 (rd l1 x8_1) (rd l2 x8_1) t492 _ A7.out).mono ?_);rintro e w' ⟨rfl,⟨nd,rfl⟩⟩;(try first|exact ⟨rfl,_,World.drewN_drewN _ _ _⟩|exact ⟨rfl,_,Eq.trans (World.drewN_drewN _ _ _) (congrArg (World.drewN _) (Nat.add_assoc _ _ _))⟩))|(go_at_call 77;(with_reducible refine (privityref01_Add.calls a0 x7_1 t492 t493 _ A8.out).mono ?_);rintro e w' ⟨rfl,⟨nd,rfl⟩⟩;(try first|exact ⟨rfl,_,World.drewN_drewN _ _ _⟩|exact ⟨rfl,_,Eq.trans (World.drewN_drewN _ _ _) (congrArg (World.drewN _) (Nat.add_assoc _ _ _))⟩)))
      repeat (go_quiet (first|(go_at_call 78;(with_reducible refine (privityref01_Mul.calls k1 a0 (rd l1 x8_1) (rd l2 x8_1) t492 _ A7.out).mono ?_);rintro e w' ⟨rfl,⟨nd,rfl⟩⟩;(try first|exact ⟨rfl,_,World.drewN_drewN _ _ _⟩|exact ⟨rfl,_,Eq.trans (World.drewN_drewN _ _ _) (congrArg (World.drewN _) (Nat.add_assoc _ _ _))⟩))|(go_at_call 77;(with_reducible refine (privityref01_Add.calls a0 x7_1 t492 t493 _ A8.out).mono ?_);rintro e w' ⟨rfl,⟨nd,rfl⟩⟩;(try first|exact ⟨rfl,_,World.drewN_drewN _ _ _⟩|exact ⟨rfl,_,Eq.trans (World.drewN_drewN _ _ _) (congrArg (World.drewN _) (Nat.add_assoc _ _ _))⟩)));try go_wp2_with (first|(go_at_call 78;(with_reducible refine (privityref01_Mul.calls k1 a0 (rd l1 x8_1) (rd l2 x8_1) t492 _ A7.out).mono ?_);rintro e w' ⟨rfl,⟨nd,rfl⟩⟩;(try first|exact ⟨rfl,_,World.drewN_drewN _ _ _⟩|exact ⟨rfl,_,Eq.trans (World.drewN_drewN _ _ _) (congrArg (World.drewN _) (Nat.add_assoc _ _ _))⟩))|(go_at_call 77;(with_reducible refine (privityref01_Add.calls a0 x7_1 t492 t493 _ A8.out).mono ?_);rintro e w' ⟨rfl,⟨nd,rfl⟩⟩;(try first|exact ⟨rfl,_,World.drewN_drewN _ _ _⟩|exact ⟨rfl,_,Eq.trans (World.drewN_drewN _ _ _) (congrArg (World.drewN _) (Nat.add_assoc _ _ _))⟩))))
      go_roundg k1
      case measure => have := HK1.out;omega
      case rel => exact ⟨(t493),(wrap64 (x8_1 + 1)),(by first|rfl|(simp;done)|(simp [*];done)),(by first|rfl|(simp;done)|(simp [*];done)),H',⟨by have := HK1.out;omega⟩,by repeat (first|exact Drawn0.refl _|apply Drawn0.step)⟩
     ·rw [if_neg c6] at H
      exact absurd H (by simp)
    ·rw [if_neg c5] at H
     exact absurd H (by simp)
   ·rw [if_neg c4] at H
    have c4b0 : decide (x8_1 < (l1.length : Int)) = false := decide_eq_false c4
    clear c4
    obtain rfl := Option.some.inj H
    go_wp2
    repeat (go_quiet (fail);try go_wp2)
    go_ret
    exact ⟨by first|rfl|(simp;done)|(simp [*];done),by repeat (first|exact Drawn0.refl _|apply Drawn0.step)⟩
end Go.Proofs.Ytmdoaijkaaaglaa.Pr
end
section
namespace Go.Proofs.Ytmdoaijkaaaglaa.E
open Go.RowKit Go.Proofs.Ytmdoaijkaaaglaa.Pr Go.Proofs.Ytmdoaijkaaaglaa.Hw Go.Proofs.YtmdoaijkaaaglaaW.PrintWords Go.Proofs.YtmdoaijkaaaglaaW.PrintLast Go.Proofs.YtmdoaijkaaaglaaW.PrintMore
theorem rdM_nat (l : List (List Int)) (i : Nat) : rd_L2 l (i : Int) = l.getD i [] := by unfold rd_L2;rw [Int.toNat_natCast]
theorem allL {F : Nat → Int → Option Bool} {n : Nat} {Q : Nat → Prop} [DecidablePred Q] {e : Bool} (hend : Ev (fun k => F k (n : Int)) e) (hyes : ∀ i,i < n → Q i → ∀ r,Ev (fun k => F k ((i + 1 : Nat) : Int)) r → Ev (fun k => F k (i : Int)) r)
  (hno : ∀ i,i < n → ¬ Q i → Ev (fun k => F k (i : Int)) false) (r : Bool) (hr : r = true ↔ ((∀ i,i < n → Q i) ∧ e = true)) : Ev (fun k => F k ((0 : Nat) : Int)) r := by
 by_cases hall : ∀ i,i < n → Q i
 ·have : r = e := by
   cases e with
   | true => exact hr.2 ⟨hall,rfl⟩
   | false => exact Bool.eq_false_iff.mpr fun h => by have := (hr.1 h).2;cases this
  rw [this]
  exact up (Q := fun i => Ev (fun k => F k (i : Int)) e) (n := n) hend fun i hi h => hyes i hi (hall i hi) e h
 ·have hf : r = false := Bool.eq_false_iff.mpr fun h => hall (hr.1 h).1
  rw [hf]
  obtain ⟨i,hi,hq⟩ : ∃ i,i < n ∧ ¬ Q i := Classical.byContradiction fun h => hall fun i hi => Classical.byContradiction fun hq => h ⟨i,hi,hq⟩
  refine up (Q := fun i => Ev (fun k => F k (i : Int)) false) (n := i) (hno i hi hq) fun j hj h => ?_
  by_cases hqj : Q j
  ·exact hyes j (by omega) hqj false h
  ·exact hno j (by omega) hqj
theorem res_at {p : Int} {l : List Int} (h : ∀ x ∈ l,Res p x) {i : Nat} (hi : i < l.length) : Res p (l.getD i 0) := by
 rw [List.getD_eq_getElem?_getD,List.getElem?_eq_getElem hi];exact h _ (List.getElem_mem hi)
def dotP (p : Int) (r l : List Int) : Nat → Int
 | 0 => 0
 | n + 1 => (dotP p r l n + r.getD n 0 * l.getD n 0 % p) % p
theorem dotP_res {p : Int} (hp : Supp p) (r l : List Int) : ∀ n,Res p (dotP p r l n)
 | 0 => by have := hp.bd;exact ⟨Int.le_refl _,by show (0 : Int) < p;omega⟩
 | n + 1 => Res.mod hp _
theorem row_ev {p : Int} (hp : Supp p) {r l : List Int} (hr : ∀ x ∈ r,Res p x) (hl : ∀ x ∈ l,Res p x) (h : r.length ≤ l.length) (hn : r.length ≤ 1000000) : Ev (fun k => hyperinvertible_row.f k p r l) (dotP p r l r.length) := by
 refine (up (Q := fun i => Ev (fun k => hyperinvertible_row.l0 k p l (dotP p r l i) r (r.length : Int) (i : Int)) (dotP p r l r.length)) (n := r.length) ?_ (fun i hi h2 => ?_)).congr fun k => rfl
 ·refine Ev.step (fun k => ?_) (Ev.now _)
  simp only [hyperinvertible_row.l0]
  rw [if_neg (by omega)]
 ·refine Ev.step (f := fun k => (field_Mul.f k p (r.getD i 0) (l.getD i 0)).bind fun t => (field_Add.f k p (dotP p r l i) t).bind fun u => hyperinvertible_row.l0 k p l u r (r.length : Int) ((i + 1 : Nat) : Int)) (fun k => ?_) ?_
  ·simp only [hyperinvertible_row.l0]
   rw [if_pos (by omega),if_pos (by omega),if_pos (by omega),if_pos (by omega),rd_nat,rd_nat,wnat (by omega)]
  ·exact Ev.bind (mul_ev hp (res_at hr hi) (res_at hl (by omega))) (Ev.bind (add_ev hp (dotP_res hp _ _ _) (Res.mod hp _)) h2)
theorem rdot_ev {p : Int} (hp : Supp p) {r l : List Int} (hr : ∀ x ∈ r,Res p x) (hl : ∀ x ∈ l,Res p x) (h : r.length ≤ l.length) (hn : r.length ≤ 1000000) : Ev (fun k => privityref07_dot.f k p r l) (dotP p r l r.length) := by
 refine (up (Q := fun i => Ev (fun k => privityref07_dot.l0 k p r l (dotP p r l i) (i : Int)) (dotP p r l r.length)) (n := r.length) ?_ (fun i hi h2 => ?_)).congr fun k => rfl
 ·refine Ev.step (fun k => ?_) (Ev.now _)
  simp only [privityref07_dot.l0]
  rw [if_neg (by omega)]
 ·refine Ev.step (f := fun k => (privityref01_Mul.f k p (r.getD i 0) (l.getD i 0)).bind fun t => (privityref01_Add.f p (dotP p r l i) t).bind fun u => privityref07_dot.l0 k p r l u ((i + 1 : Nat) : Int)) (fun k => ?_) ?_
  ·simp only [privityref07_dot.l0]
   rw [if_pos (by omega),if_pos (by omega),if_pos (by omega),rd_nat,rd_nat,wnat (by omega)]
  ·refine Ev.bind (rmul_ev hp (res_at hr hi) (res_at hl (by omega))) (h2.congr fun k => ?_)
   rw [radd_eq hp (dotP_res hp _ _ _) (Res.mod hp _)];rfl
def flatB (m : List (List Int)) : Bool := decide (0 < m.length) && (decide (0 < (m.getD 0 []).length) && m.all fun r => decide (r.length = (m.getD 0 []).length))
theorem flat_ev (m : List (List Int)) (hm : m.length ≤ 1000000) : Ev (fun k => hyperinvertible_flat.f k m) (flatB m) := by
 by_cases h0 : m.length = 0
 ·have e : flatB m = false := by unfold flatB;rw [decide_eq_false (by omega)];rfl
  rw [e]
  refine Ev.congr (f := fun k => hyperinvertible_flat.j0 k m true) (fun k => ?_) (Ev.step (fun k => ?_) (Ev.now false))
  ·unfold hyperinvertible_flat.f;rw [if_pos (by omega)]
  ·simp only [hyperinvertible_flat.j0];rw [if_pos trivial]
 ·have hr0 : rd_L2 m 0 = m.getD 0 [] := rdM_nat m 0
  have hf : ∀ k,hyperinvertible_flat.f k m = hyperinvertible_flat.j0 k m (((m.getD 0 []).length : Int) == 0) := fun k => by
   unfold hyperinvertible_flat.f
   rw [if_neg (by omega),if_pos (by omega),hr0]
  by_cases h1 : (m.getD 0 []).length = 0
  ·have e : flatB m = false := by unfold flatB;rw [decide_eq_false (show ¬ 0 < (m.getD 0 []).length by omega)];simp
   rw [e]
   refine Ev.congr (f := fun k => hyperinvertible_flat.j0 k m true) (fun k => ?_) (Ev.step (fun k => ?_) (Ev.now false))
   ·rw [hf,h1];rfl
   ·simp only [hyperinvertible_flat.j0];rw [if_pos trivial]
  ·have hb : (((m.getD 0 []).length : Int) == 0) = false := by
    have : ¬ ((m.getD 0 []).length : Int) = 0 := by omega
    simpa using this
   refine Ev.congr (f := fun k => hyperinvertible_flat.j0 k m false) (fun k => by rw [hf,hb]) ?_
   refine Ev.step (f := fun k => hyperinvertible_flat.l0 k m m (m.length : Int) ((0 : Nat) : Int)) (fun k => by simp only [hyperinvertible_flat.j0];rw [if_neg (by simp)];rfl) ?_
   have hst : ∀ i,i < m.length → ∀ k,hyperinvertible_flat.l0 (k + 1) m m (m.length : Int) (i : Int) = if ((m.getD i []).length : Int) = ((m.getD 0 []).length : Int) then hyperinvertible_flat.l0 k m m (m.length : Int) ((i + 1 : Nat) : Int) else some false := fun i hi k => by
    simp only [hyperinvertible_flat.l0]
    rw [if_pos (by omega),if_pos (by omega),if_pos (by omega),if_pos (by omega),rdM_nat,hr0,wnat (by omega)]
   refine allL (F := fun k i => hyperinvertible_flat.l0 k m m (m.length : Int) i) (n := m.length) (Q := fun i => (m.getD i []).length = (m.getD 0 []).length) (e := true) ?_ (fun i hi hq r h => ?_) (fun i hi hq => ?_) (flatB m) ?_
   ·refine Ev.step (fun k => ?_) (Ev.now _)
    simp only [hyperinvertible_flat.l0]
    rw [if_neg (by omega)]
   ·exact Ev.step (hst i hi) (h.congr fun k => if_pos (by rw [hq]))
   ·exact Ev.step (hst i hi) ((Ev.now false).congr fun k => if_neg (by omega))
   ·unfold flatB
    rw [decide_eq_true (show 0 < m.length by omega),decide_eq_true (show 0 < (m.getD 0 []).length by omega),Bool.true_and,Bool.true_and,List.all_eq_true]
    refine ⟨fun h => ⟨fun i hi => ?_,rfl⟩,fun h x hx => ?_⟩
    ·have := h (m.getD i []) (by rw [List.getD_eq_getElem?_getD,List.getElem?_eq_getElem hi];exact List.getElem_mem hi)
     exact of_decide_eq_true this
    ·obtain ⟨i,hi,rfl⟩ := List.getElem_of_mem hx
     have := h.1 i hi
     rw [show m.getD i [] = m[i] from by rw [List.getD_eq_getElem?_getD,List.getElem?_eq_getElem hi];rfl] at this
     exact decide_eq_true this
def subOk (m : List (List Int)) (rows cols : List Int) : Bool := rows.all fun i => decide (0 ≤ i) && (decide (i < (m.length : Int)) && cols.all fun c => decide (0 ≤ c) && decide (c < ((rd_L2 m i).length : Int)))
def subM (m : List (List Int)) (rows cols : List Int) : List (List Int) := rows.map fun i => cols.map fun c => rd (rd_L2 m i) c
def subR (m : List (List Int)) (rows cols : List Int) : List (List Int) × Int := if subOk m rows cols = true then (subM m rows cols,0) else ([],1)
def goodI (m : List (List Int)) (cols : List Int) (i : Int) : Prop := 0 ≤ i ∧ i < (m.length : Int) ∧ ∀ c ∈ cols,0 ≤ c ∧ c < ((rd_L2 m i).length : Int)
theorem subOk_iff {m : List (List Int)} {rows cols : List Int} : subOk m rows cols = true ↔ ∀ i ∈ rows,goodI m cols i := by
 unfold subOk goodI
 simp only [List.all_eq_true,Bool.and_eq_true,decide_eq_true_eq]
theorem rd_mem {l : List Int} {i : Nat} (h : i < l.length) : rd l (i : Int) ∈ l := by
 rw [rd_nat,List.getD_eq_getElem?_getD,List.getElem?_eq_getElem h];exact List.getElem_mem h
theorem subM_next (m : List (List Int)) (rows cols : List Int) (i : Nat) (h : i < rows.length) : subM m (rows.take i) cols ++ [cols.map fun c => rd (rd_L2 m (rd rows (i : Int))) c] = subM m (rows.take (i + 1)) cols := by
 unfold subM
 rw [List.take_succ_eq_append_getElem h,List.map_append,rd_nat,List.getD_eq_getElem?_getD,List.getElem?_eq_getElem h];rfl
theorem map_next (f : Int → Int) (l : List Int) (i : Nat) (h : i < l.length) : (l.take i).map f ++ [f (rd l (i : Int))] = (l.take (i + 1)).map f := by
 rw [List.take_succ_eq_append_getElem h,List.map_append,rd_nat,List.getD_eq_getElem?_getD,List.getElem?_eq_getElem h];rfl
theorem subm_ev (m : List (List Int)) (rows cols : List Int) (hr : rows.length ≤ 1000000) (hc : cols.length ≤ 1000000) : Ev (fun k => hyperinvertible_Submatrix.f k m rows cols) (subR m rows cols) := by
 have bad : ∀ i,i < rows.length → ¬ goodI m cols (rd rows (i : Int)) → subR m rows cols = ([],1) := fun i hi h => by
  unfold subR;rw [if_neg fun h2 => h (subOk_iff.1 h2 _ (rd_mem hi))]
 have main := up (Q := fun i => (∀ q,q < i → goodI m cols (rd rows (q : Int))) → Ev (fun k => hyperinvertible_Submatrix.l0 k m cols (subM m (rows.take i) cols) rows (rows.length : Int) (i : Int)) (subR m rows cols)) (n := rows.length) ?_ (fun i hi h2 => ?_) (fun q hq => by omega)
 ·exact main.congr fun k => rfl
 ·intro hall
  refine Ev.step (fun k => ?_) (Ev.now _)
  simp only [hyperinvertible_Submatrix.l0]
  rw [if_neg (by omega),List.take_length]
  unfold subR
  rw [if_pos (subOk_iff.2 fun x hx => ?_)]
  obtain ⟨j,hj,rfl⟩ := List.getElem_of_mem hx
  have := hall j hj
  rwa [show rd rows (j : Int) = rows[j] from by rw [rd_nat,List.getD_eq_getElem?_getD,List.getElem?_eq_getElem hj];rfl] at this
 ·intro hall
  have hsl : (subM m (rows.take i) cols).length ≤ rows.length := by unfold subM;rw [List.length_map,List.length_take];omega
  obtain ⟨x,hx⟩ : ∃ x,x = rd rows (i : Int) := ⟨_,rfl⟩
  have hj1 : ∀ b,(b = true → Ev (fun k => some (([] : List (List Int)),(1 : Int))) (subR m rows cols)) → (b = false → Ev (fun k => hyperinvertible_Submatrix.l1 k m cols (subM m (rows.take i) cols) x ([] : List Int) rows (rows.length : Int) (i : Int) cols (cols.length : Int) ((0 : Nat) : Int)) (subR m rows cols)) → Ev (fun k => hyperinvertible_Submatrix.j1 k m cols (subM m (rows.take i) cols) x rows (rows.length : Int) (i : Int) b) (subR m rows cols) := by
   intro b h1 h0
   cases b with
   | true => exact Ev.step (f := fun k => some (([] : List (List Int)),(1 : Int))) (fun k => by simp only [hyperinvertible_Submatrix.j1];rw [if_pos trivial]) (h1 rfl)
   | false => exact Ev.step (f := fun k => hyperinvertible_Submatrix.l1 k m cols (subM m (rows.take i) cols) x ([] : List Int) rows (rows.length : Int) (i : Int) cols (cols.length : Int) ((0 : Nat) : Int)) (fun k => by simp only [hyperinvertible_Submatrix.j1];rw [if_neg (by simp)];rfl) (h0 rfl)
  have hfull : (0 ≤ x ∧ x < (m.length : Int)) → Ev (fun k => hyperinvertible_Submatrix.l1 k m cols (subM m (rows.take i) cols) x ([] : List Int) rows (rows.length : Int) (i : Int) cols (cols.length : Int) ((0 : Nat) : Int)) (subR m rows cols) := by
   intro hxr
   refine up (Q := fun j => (∀ q,q < j → 0 ≤ rd cols (q : Int) ∧ rd cols (q : Int) < ((rd_L2 m x).length : Int)) → Ev (fun k => hyperinvertible_Submatrix.l1 k m cols (subM m (rows.take i) cols) x ((cols.take j).map fun c => rd (rd_L2 m x) c) rows (rows.length : Int) (i : Int) cols (cols.length : Int) (j : Int)) (subR m rows cols)) (n := cols.length) ?_ (fun j hj h3 => ?_) (fun q hq => by omega)
   ·intro hgood
    have hg : goodI m cols x := ⟨hxr.1,hxr.2,fun c hc => by
     obtain ⟨j,hj,rfl⟩ := List.getElem_of_mem hc
     have := hgood j hj
     rwa [show rd cols (j : Int) = cols[j] from by rw [rd_nat,List.getD_eq_getElem?_getD,List.getElem?_eq_getElem hj];rfl] at this⟩
    refine Ev.step (f := fun k => hyperinvertible_Submatrix.l0 k m cols (subM m (rows.take (i + 1)) cols) rows (rows.length : Int) ((i + 1 : Nat) : Int)) (fun k => ?_) (h2 fun q hq => ?_)
    ·simp only [hyperinvertible_Submatrix.l1]
     rw [if_neg (by omega),List.take_length,wnat (by omega),← subM_next m rows cols i hi,← hx,if_pos (by omega)]
    ·by_cases e : q = i
     ·subst e;rw [← hx];exact hg
     ·exact hall q (by omega)
   ·intro hgood
    by_cases hcj : 0 ≤ rd cols (j : Int) ∧ rd cols (j : Int) < ((rd_L2 m x).length : Int)
    ·have hn := h3 fun q hq => by
      by_cases e : q = j
      ·subst e;exact hcj
      ·exact hgood q (by omega)
     refine Ev.step (f := fun k => hyperinvertible_Submatrix.l1 k m cols (subM m (rows.take i) cols) x ((cols.take (j + 1)).map fun c => rd (rd_L2 m x) c) rows (rows.length : Int) (i : Int) cols (cols.length : Int) ((j + 1 : Nat) : Int)) (fun k => ?_) hn
     simp only [hyperinvertible_Submatrix.l1]
     rw [if_pos (by omega),if_pos (by omega),if_pos (by omega),if_neg (by omega),if_pos hxr.1,if_pos hxr.2,if_neg (by omega),if_pos hcj.1,if_pos hcj.2,if_pos (by rw [List.length_map,List.length_take];omega),wnat (by omega),← map_next (fun c => rd (rd_L2 m x) c) cols j hj]
    ·rw [bad i hi fun hg => hcj (by rw [← hx] at hg;exact hg.2.2 _ (rd_mem hj))]
     refine Ev.step (fun k => ?_) (Ev.now _)
     simp only [hyperinvertible_Submatrix.l1]
     rw [if_pos (by omega),if_pos (by omega),if_pos (by omega)]
     by_cases hneg : rd cols (j : Int) < 0
     ·rw [if_pos hneg]
     ·rw [if_neg hneg,if_pos hxr.1,if_pos hxr.2,if_pos (by omega)]
  by_cases hneg : x < 0
  ·refine Ev.step (f := fun k => hyperinvertible_Submatrix.j1 k m cols (subM m (rows.take i) cols) x rows (rows.length : Int) (i : Int) true) (fun k => ?_) (hj1 true (fun _ => ?_) (fun h => by cases h))
   ·simp only [hyperinvertible_Submatrix.l0]
    rw [if_pos (by omega),if_pos (by omega),if_pos (by omega),← hx,if_pos hneg]
   ·rw [bad i hi fun hg => by rw [← hx] at hg;have := hg.1;omega]
    exact Ev.now _
  ·refine Ev.step (f := fun k => hyperinvertible_Submatrix.j1 k m cols (subM m (rows.take i) cols) x rows (rows.length : Int) (i : Int) (decide (x ≥ (m.length : Int)))) (fun k => ?_) (hj1 _ (fun h => ?_) (fun h => ?_))
   ·simp only [hyperinvertible_Submatrix.l0]
    rw [if_pos (by omega),if_pos (by omega),if_pos (by omega),← hx,if_neg hneg]
   ·have := of_decide_eq_true h
    rw [bad i hi fun hg => by rw [← hx] at hg;have := hg.2.1;omega]
    exact Ev.now _
   ·have := of_decide_eq_false h
    exact hfull ⟨by omega,by omega⟩
end Go.Proofs.Ytmdoaijkaaaglaa.E
end
