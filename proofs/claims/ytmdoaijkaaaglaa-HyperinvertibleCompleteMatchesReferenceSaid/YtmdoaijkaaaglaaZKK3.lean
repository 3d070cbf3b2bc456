/- Part 3 of the proof's texts, joined in build order. -/
import Derived.Test.YtmdoaijkaaaglaaProg
import Derived.MapKept
import Derived.Maps.Own
import Derived.Test.YtmdoaijkaaaglaaZKK0
import Derived.Test.YtmdoaijkaaaglaaZKK1
set_option linter.unusedVariables false
set_option linter.unusedSimpArgs false
section
namespace Go.Proofs.Ytmdoaijkaaaglaa.Hw
open Go.RowKit Go.MapKept Go.Proofs.YtmdoaijkaaaglaaW.PrintWords
def ents7 (L : List (Int × Int)) : Array MapEntry := (L.mapIdx fun i n => (⟨.int .i64 n.1,.int .u64 n.2,i⟩ : MapEntry)).toArray
def keys7 (L : List (Int × Int)) : List Int := L.map Prod.fst
def val7 (L : List (Int × Int)) (x : Int) : Int := ((L.find? fun e => e.1 == x).map Prod.snd).getD 0
def MpAt (w : World) (b : Nat) (L : List (Int × Int)) : Prop := w.heap[b]? = some (.map (ents7 L) L.length)
theorem ents7_push (L : List (Int × Int)) (x y : Int) : (ents7 L).push ⟨.int .i64 x,.int .u64 y,L.length⟩ = ents7 (L ++ [(x,y)]) := by
 unfold ents7;rw [List.mapIdx_append];simp
theorem ents7_key (L : List (Int × Int)) : ∀ e ∈ (ents7 L).toList,IsKey (.int .i64) e.key := by
 intro e he
 unfold ents7 at he
 simp only [List.mem_mapIdx] at he
 obtain ⟨i,h,rfl⟩ := he
 simp [IsKey]
theorem ents7_has (L : List (Int × Int)) (e : MapEntry) (h : e ∈ (ents7 L).toList) : ∃ p,p ∈ L ∧ e.key = .int .i64 p.1 ∧ e.val = .int .u64 p.2 := by
 unfold ents7 at h
 simp only [List.mem_mapIdx] at h
 obtain ⟨i,h,rfl⟩ := h
 exact ⟨L[i],List.getElem_mem h,rfl,rfl⟩
theorem ents7_mem (L : List (Int × Int)) (p : Int × Int) (h : p ∈ L) : ∃ e ∈ (ents7 L).toList,e.key = .int .i64 p.1 := by
 obtain ⟨i,hi,rfl⟩ := List.getElem_of_mem h
 unfold ents7
 simp only [List.mem_mapIdx]
 exact ⟨_,⟨i,hi,rfl⟩,rfl⟩
theorem val7_out {L : List (Int × Int)} {x : Int} (h : x ∉ keys7 L) : val7 L x = 0 := by
 unfold val7
 rw [List.find?_eq_none.2 fun e he => by simp only [beq_iff_eq];exact fun hx => h (List.mem_map.2 ⟨e,he,hx⟩)]
 rfl
theorem val7_in : ∀ {L : List (Int × Int)},(keys7 L).Nodup → ∀ {p : Int × Int},p ∈ L → val7 L p.1 = p.2
 | [],_,p,h => by cases h
 | q :: L,hn,p,h => by
  have hn' := List.nodup_cons.1 hn
  unfold val7
  rw [List.find?_cons]
  by_cases e : q.1 = p.1
  ·rw [show (q.1 == p.1) = true from by simpa using e]
   rcases List.mem_cons.1 h with rfl|h
   ·rfl
   ·exact absurd (List.mem_map.2 ⟨p,h,e.symm⟩) hn'.1
  ·rw [show (q.1 == p.1) = false from by simpa using e]
   rcases List.mem_cons.1 h with rfl|h
   ·exact absurd rfl e
   ·exact val7_in hn'.2 h
theorem mp_look {P : Program} {t kt et : TypeId} (hm : P.underlying t = some (.map kt et)) (hk : P.underlying kt = some (.int .i64)) {w : World} (hz : (zeroValue et).run P w = .ok (.int .u64 0) w) {b : Nat} {L : List (Int × Int)} (h : MpAt w b L) (hn : (keys7 L).Nodup) (x : Int) :
  (Instr.lookup t (.map (some b)) (.int .i64 x) false).run P w = .ok (.int .u64 (val7 L x)) w ∧ (Instr.lookup t (.map (some b)) (.int .i64 x) true).run P w = .ok (.tuple #[.int .u64 (val7 L x),.bool (decide (x ∈ keys7 L))]) w := by
 have hik : IsKey (.int .i64) (.int .i64 x) := by simp [IsKey]
 rcases findNow_spec hik (ents7 L).toList 0 (ents7_key L) with ⟨h1,h2⟩|⟨j,e,h1,h2,h3⟩
 ·have hx : x ∉ keys7 L := fun hx => by
   obtain ⟨p,hp,rfl⟩ := List.mem_map.1 hx
   obtain ⟨e,he,hk⟩ := ents7_mem L p hp
   exact h2 e he hk
  rw [val7_out hx]
  constructor <;> simp [Instr.lookup,run_underlying hm,Go.MapKept.run_getObj_map (P := P) (show w.heap[b]? = some (.map (ents7 L) L.length) from h),run_checkKey hk hik,run_findKey hk h1,Result.andThen,hz,hx]
 ·have he : e ∈ (ents7 L).toList := List.mem_of_getElem? h2
  obtain ⟨p,hp,e1,e2⟩ := ents7_has L e he
  have hpx : p.1 = x := by rw [e1] at h3;simpa using h3
  subst hpx
  have hx : p.1 ∈ keys7 L := List.mem_map.2 ⟨p,hp,rfl⟩
  rw [val7_in hn hp]
  constructor <;> simp [Instr.lookup,run_underlying hm,Go.MapKept.run_getObj_map (P := P) (show w.heap[b]? = some (.map (ents7 L) L.length) from h),run_checkKey hk hik,run_findKey hk h1,Result.andThen,hx,e2]
def putMp (w : World) (b : Nat) (L : List (Int × Int)) : World := { w with heap := w.heap.setIfInBounds b (.map (ents7 L) L.length) }
theorem mp_put {P : Program} {t kt et : TypeId} (hm : P.underlying t = some (.map kt et)) (hk : P.underlying kt = some (.int .i64)) {w : World} {b : Nat} {L : List (Int × Int)} (h : MpAt w b L) (x y : Int) (hx : x ∉ keys7 L) :
  (Instr.mapUpdate t (.map (some b)) (.int .i64 x) (.int .u64 y)).run P w = .ok () (putMp w b (L ++ [(x,y)])) := by
 have hik : IsKey (.int .i64) (.int .i64 x) := by simp [IsKey]
 rcases findNow_spec hik (ents7 L).toList 0 (ents7_key L) with ⟨h1,h2⟩|⟨j,e,h1,h2,h3⟩
 ·simp [Instr.mapUpdate,run_underlying hm,Go.MapKept.run_getObj_map (P := P) (show w.heap[b]? = some (.map (ents7 L) L.length) from h),run_checkKey hk hik,run_findKey hk h1,Go.MapKept.run_setObj_map (P := P) _ (show w.heap[b]? = some (.map (ents7 L) L.length) from h),Result.andThen,putMp,ents7_push]
 ·have he : e ∈ (ents7 L).toList := List.mem_of_getElem? h2
  obtain ⟨p,hp,e1,e2⟩ := ents7_has L e he
  have hpx : p.1 = x := by rw [e1] at h3;simpa using h3
  exact absurd (List.mem_map.2 ⟨p,hp,hpx⟩) hx
theorem putMp_at {w : World} {b : Nat} {L : List (Int × Int)} (hb : b < w.heap.size) : MpAt (putMp w b L) b L := by
 unfold MpAt putMp
 simp [hb]
theorem putMp_below {base : Nat} {w w1 : World} {b : Nat} {L : List (Int × Int)} (h : Below base w w1) (hb : base ≤ b) : Below base w (putMp w1 b L) :=
 ⟨h.os,h.tape,h.output,by show _ ≤ (Array.setIfInBounds _ _ _).size;rw [Array.size_setIfInBounds];exact h.size,fun i hi => by
  show (Array.setIfInBounds _ _ _)[i]? = _
  rw [Array.getElem?_setIfInBounds_ne (by omega)];exact h.block i hi⟩
theorem MpAt.alloc {w : World} {b : Nat} {L : List (Int × Int)} (h : MpAt w b L) (o : Obj) : MpAt (w.alloc o) b L := by
 have hlt : b < w.heap.size := (Array.getElem?_eq_some_iff.1 h).1
 show (w.heap.push o)[b]? = _
 rw [Array.getElem?_push,if_neg (by omega)];exact h
theorem mp_made (w : World) : MpAt (w.alloc (.map #[] 0)) w.heap.size [] := by
 show (w.heap.push _)[w.heap.size]? = _
 simp [ents7]
end Go.Proofs.Ytmdoaijkaaaglaa.Hw
end
section
namespace Go.Proofs.Ytmdoaijkaaaglaa.Hw
open Go.RowKit Go.Proofs.Ytmdoaijkaaaglaa.Pr Go.Proofs.YtmdoaijkaaaglaaW.PrintWords Go.Proofs.YtmdoaijkaaaglaaW.PrintLast Go.Proofs.YtmdoaijkaaaglaaW.PrintMore
def maskC (L : List (Int × Int)) (bp : Nat) : List Value := ((List.range 64).map fun (i : Nat) => Value.bool (decide ((i : Int) ∈ keys7 L))) ++ [.map (some bp)]
theorem maskC_at (L : List (Int × Int)) (bp i : Nat) (h : i < 64) : (maskC L bp).toArray[i]? = some (.bool (decide ((i : Int) ∈ keys7 L))) := by
 rw [List.getElem?_toArray,maskC,List.getElem?_append_left (by simpa using h)]
 simp [h]
theorem maskC_map (L : List (Int × Int)) (bp : Nat) : (maskC L bp).toArray[64]? = some (.map (some bp)) := by
 rw [List.getElem?_toArray,maskC,List.getElem?_append_right (by simp)]
 simp
def MaskAt (w : World) (bm bp : Nat) (L : List (Int × Int)) : Prop := w.heap[bm]? = some (.cells (maskC L bp).toArray 74 (0,0)) ∧ MpAt w bp L
theorem MaskAt.below {w w1 : World} {bm bp : Nat} {L : List (Int × Int)} (h : MaskAt w bm bp L) (hb : Below w.heap.size w w1) : MaskAt w1 bm bp L :=
 ⟨(hb.block _ (blk_lt h.1)).trans h.1,(hb.block _ (blk_lt h.2)).trans h.2⟩
set_option maxHeartbeats 1000000 in
set_option maxRecDepth 100000 in
theorem has_walk (bm bp : Nat) (L : List (Int × Int)) (w : World) (hM : MaskAt w bm bp L) (i : Nat) (hi : i < 64) :
  Calls Try.prog 42 #[.pointer (some ⟨bm,0,none⟩),.int .i64 (i : Int)] w fun e w' => e = .returned (.bool (decide ((i : Int) ∈ keys7 L))) ∧ Below w.heap.size w w' := by
 have hc : w.cell? ⟨bm,i,none⟩ = some (.bool (decide ((i : Int) ∈ keys7 L))) := (blk_cell hM.1 i).trans (maskC_at L bp i hi)
 have q1 : decide ((i : Int) < 64) = true := decide_eq_true (by omega)
 have q2 : ((i : Int) < 64) = True := eq_true (by omega)
 have q3 : ((0 : Int) ≤ (i : Int)) = True := eq_true (by omega)
 obtain ⟨r,hr⟩ : ∃ r,r = decide ((i : Int) ∈ keys7 L) := ⟨_,rfl⟩
 rw [← hr] at hc ⊢
 clear hM hr
 go_enter Try.func42,Try.ntmps42
 go_wp2
 first|go_ret|((try simp only [Exit.inBlock,Exit.then]);refine bodyPost_ret (results_tmp rfl _ _ _) rfl ?_)
 exact ⟨rfl,Below.refl _ _⟩
theorem maskC_set (L : List (Int × Int)) (bp i : Nat) (y : Int) (h : i < 64) : (maskC L bp).toArray.setIfInBounds i (.bool true) = (maskC (L ++ [((i : Int),y)]) bp).toArray := by
 rw [List.setIfInBounds_toArray]
 congr 1
 unfold maskC
 rw [List.set_append_left _ _ (by simpa using h)]
 congr 1
 apply List.ext_getElem
 ·simp
 ·intro j h1 h2
  rw [List.getElem_set]
  simp only [List.getElem_map,List.getElem_range,keys7,List.map_append,List.map_cons,List.map_nil,List.mem_append,List.mem_cons,List.not_mem_nil,or_false]
  by_cases e : i = j
  ·subst e;simp
  ·rw [if_neg e]
   congr 1
   exact decide_eq_decide.2 ⟨Or.inl,fun hh => hh.resolve_right fun e2 => e (by omega)⟩
def ptsM (pts : List S56) : List (Int × Int) := pts.map fun x => (x.f0,x.f1)
theorem ptsM_next (pts : List S56) (n : Nat) (h : n < pts.length) : ptsM (pts.take n) ++ [((pts[n]).f0,(pts[n]).f1)] = ptsM (pts.take (n + 1)) := by
 unfold ptsM;rw [List.take_succ_eq_append_getElem h,List.map_append];rfl
theorem zeroW7 (w : World) : (zeroValue 22).run Try.prog w = .ok (.int .u64 0) w := by kernel_rfl
theorem putMp_other {w : World} {b : Nat} {L : List (Int × Int)} {k : Nat} (h : k ≠ b) : (putMp w b L).heap[k]? = w.heap[k]? := by
 unfold putMp
 exact Array.getElem?_setIfInBounds_ne (by omega)
theorem maskC_zero (bp : Nat) : Try.zeroCells74.setIfInBounds 64 (.map (some bp)) = (maskC [] bp).toArray := by kernel_rfl
theorem wrU7 {x : Int} (h0 : 0 ≤ x) (h1 : x < 18446744073709551616) : IntKind.u64.wrap x = x := by
 show x % 18446744073709551616 = x
 omega
theorem wrI7 {x : Int} (h0 : 0 ≤ x) (h1 : x < 9223372036854775808) : IntKind.i64.wrap x = x := by
 rw [i64_w];unfold wrap64;omega
theorem rdT_nat7 (pts : List S56) (i : Nat) (h : i < pts.length) : rd_T56 pts (i : Int) = pts[i] := by
 unfold rd_T56
 rw [Int.toNat_natCast,List.getD_eq_getElem?_getD,List.getElem?_eq_getElem h];rfl
def plcB (pts : List S56) (n : Int) : Bool := (pts.all fun x => decide (x.f0 < n)) && decide ((keys7 (ptsM pts)).Nodup)
theorem plcB_iff {pts : List S56} {n : Int} : plcB pts n = true ↔ (∀ x ∈ pts,x.f0 < n) ∧ (keys7 (ptsM pts)).Nodup := by
 unfold plcB;simp only [Bool.and_eq_true,List.all_eq_true,decide_eq_true_eq]
def KnwR (pts : List S56) (n : Int) (w : World) (e : Ending) (w' : World) : Prop :=
 ∃ a : Option Addr,e = .returned (.tuple #[.pointer a,.bool (plcB pts n)]) ∧ (plcB pts n = true → ∃ bm bp,a = some ⟨bm,0,none⟩ ∧ MaskAt w' bm bp (ptsM pts) ∧ w.heap.size ≤ bm ∧ w.heap.size ≤ bp)
theorem plcB_no1 {pts : List S56} {n : Int} {i : Nat} (h : i < pts.length) (hn : ¬ (pts[i]).f0 < n) : plcB pts n = false := by
 rw [Bool.eq_false_iff]
 exact fun h2 => hn ((plcB_iff.1 h2).1 _ (List.getElem_mem h))
theorem plcB_no2 {pts : List S56} {n : Int} {i : Nat} (h : i < pts.length) (hn : (pts[i]).f0 ∈ keys7 (ptsM (pts.take i))) : plcB pts n = false := by
 rw [Bool.eq_false_iff]
 intro h2
 have h3 := (plcB_iff.1 h2).2
 have h4 : (keys7 (ptsM (pts.take (i + 1)))).Nodup := by
  refine List.Nodup.sublist ?_ h3
  unfold keys7 ptsM
  exact ((List.take_sublist _ _).map _).map _
 rw [← ptsM_next pts i h] at h4
 unfold keys7 at h4 hn
 rw [List.map_append] at h4
 exact (List.nodup_append.1 h4).2.2 _ hn _ (by simp) rfl
set_option maxHeartbeats 4000000 in
set_option maxRecDepth 100000 in
theorem known_any (A : Option Addr) (c : Nat) (pts : List S56) (n : Int) (hl : pts.length ≤ 1000000) (w : World) (hr : Kd.C k56 w A pts.length pts) (hc : pts.length ≤ c) (h0 : 0 ≤ n) (h64 : n ≤ 64) (hx : ∀ x ∈ pts,0 ≤ x.f0 ∧ x.f0 < 18446744073709551616) :
  Calls Try.prog 41 #[.slice A pts.length c,.int .i64 n] w fun e w' => KnwR pts n w e w' ∧ Below w.heap.size w w' := by
 have HR := am hr
 have HX := am hx
 have hmm := @run_makeMap Try.prog
 have hb1 := below_alloc (Below.refl w.heap.size w) (.map #[] 0)
 have hM0 : MaskAt ((w.alloc (.map #[] 0)).alloc (.cells (maskC [] w.heap.size).toArray 74)) (w.heap.size + 1) w.heap.size [] := by
  refine ⟨?_,MpAt.alloc (mp_made w) _⟩
  have := blk_new (w.alloc (.map #[] 0)) (.cells (maskC [] w.heap.size).toArray 74)
  rwa [show (w.alloc (.map #[] 0)).heap.size = w.heap.size + 1 from Array.size_push _] at this
 have HM0 := am hM0
 have HB0 := am (below_alloc hb1 (.cells (maskC [] w.heap.size).toArray 74))
 clear hr hx hb1 hM0
 go_enter Try.func41,Try.ntmps41
 go_wp2
 clear hmm
 rw [maskC_zero]
 go_loopg [8,9,10,11,17] pts.length (fun kq v8 v9 v10 v11 v17 w' => ∃ (i : Nat),v17 = .int .i64 (i : Int) ∧ Aside0 (kq + i = pts.length) ∧ Aside0 ((∀ x ∈ pts.take i,x.f0 < n) ∧ (keys7 (ptsM (pts.take i))).Nodup) ∧ Aside0 (MaskAt w' (w.heap.size + 1) w.heap.size (ptsM (pts.take i))) ∧ Aside0 (Below w.heap.size w w'))
 case atStart => exact ⟨0,rfl,⟨rfl⟩,⟨by simp,by simp [ptsM,keys7]⟩,HM0,HB0⟩
 case round =>
  clear HM0 HB0
  obtain ⟨i,rfl,HK,HPO,HM,HB⟩ := hrel
  by_cases hlt : i < pts.length
  ·have p1 : ((0 : Int) ≤ (i : Int)) = True := eq_true (by omega)
   have q1 : ((i : Int) < (pts.length : Int)) = True := eq_true (by omega)
   have q0 : decide ((i : Int) < (pts.length : Int)) = true := decide_eq_true (by omega)
   obtain ⟨ad,e1,hx0,hx1⟩ := at_T56 HR.out (i : Int) (by omega) (by omega)
   cases e1
   replace hx0 := pw_cell_below HB.out hx0
   replace hx1 := pw_cell_below HB.out hx1
   rw [Int.toNat_natCast] at hx0 hx1
   have hrd := rdT_nat7 pts i hlt
   have hXb := HX.out _ (List.getElem_mem hlt)
   obtain ⟨k,hk⟩ : ∃ k : Nat,(pts[i]).f0 = (k : Int) := ⟨(pts[i]).f0.toNat,by omega⟩
   obtain ⟨Y,hY⟩ : ∃ y,y = (pts[i]).f1 := ⟨_,rfl⟩
   have hnx := ptsM_next pts i hlt
   have HNO1 := am (fun (h : ¬ (k : Int) < n) => plcB_no1 (n := n) hlt (by rw [hk];exact h))
   have HNO2 := am (fun (h : (k : Int) ∈ keys7 (ptsM (pts.take i))) => plcB_no2 (n := n) hlt (by rw [hk];exact h))
   have HPN := am (fun (h : (k : Int) < n) => show ∀ x ∈ pts.take (i + 1),x.f0 < n from by
    intro x hx2
    rw [List.take_succ_eq_append_getElem hlt] at hx2
    rcases List.mem_append.1 hx2 with h3|h3
    ·exact HPO.out.1 x h3
    ·rw [List.mem_singleton.1 h3,hk];exact h)
   rw [hrd] at hx0 hx1
   rw [hk] at hx0 hnx hXb
   rw [← hY] at hx1 hnx
   obtain ⟨L,hL⟩ : ∃ L,L = ptsM (pts.take i) := ⟨_,rfl⟩
   rw [← hL] at HM hnx HNO2
   have hndl : (keys7 L).Nodup := by rw [hL];exact HPO.out.2
   have hba := below_alloc (Below.refl wr.heap.size wr) (.cells #[.int .u64 (k : Int),.int .u64 Y] 56)
   have HMa := am (HM.out.below hba)
   have HBa := am (below_step HB.out hba)
   have hcm : (wr.alloc (.cells #[.int .u64 (k : Int),.int .u64 Y] 56)).cell? ⟨w.heap.size + 1,64,none⟩ = some (.map (some w.heap.size)) := (blk_cell HMa.out.1 64).trans (maskC_map L _)
   have hlook := (mp_look Try.underlying72 Try.underlying3 (zeroW7 _) HMa.out.2 hndl (k : Int)).2
   have hw1 : IntKind.u64.wrap n = n := wrU7 (by omega) (by omega)
   have HKB := am hXb
   by_cases hkn : (k : Int) < n
   case neg =>
    have q2 : decide ((k : Int) ≥ n) = true := decide_eq_true (by omega)
    have q3 : decide (n ≤ (k : Int)) = true := decide_eq_true (by omega)
    have HF := am (HNO1.out hkn)
    clear hrd hk hY hL hnx hndl hba hXb hlook hcm
    go_wp2
    first|go_ret2|((try simp only [Exit.inBlock,Exit.then]);refine bodyPost_ret (results_tmp2 rfl _ _ _) rfl ?_)
    exact ⟨⟨none,by rw [HF.out];rfl,fun h => by rw [HF.out] at h;cases h⟩,HBa.out⟩
   have hw2 : IntKind.i64.wrap (k : Int) = (k : Int) := wrI7 (by omega) (by omega)
   have q2 : decide ((k : Int) ≥ n) = false := decide_eq_false (by omega)
   have q3 : decide (n ≤ (k : Int)) = false := decide_eq_false (by omega)
   by_cases hin : (k : Int) ∈ keys7 L
   case pos =>
    rw [decide_eq_true hin] at hlook
    have HF := am (HNO2.out hin)
    clear hrd hk hY hL hnx hndl hba hXb hin
    go_wp2
    first|go_ret2|((try simp only [Exit.inBlock,Exit.then]);refine bodyPost_ret (results_tmp2 rfl _ _ _) rfl ?_)
    exact ⟨⟨none,by rw [HF.out];rfl,fun h => by rw [HF.out] at h;cases h⟩,HBa.out⟩
   have hout : (k : Int) ∉ keys7 L := hin
   rw [decide_eq_false hout] at hlook
   have hput := mp_put Try.underlying72 Try.underlying3 (show MpAt (wr.alloc (.cells #[.int .u64 (k : Int),.int .u64 Y] 56)).drew w.heap.size L from HMa.out.2) (k : Int) Y hout
   have HOut := am hout
   have HNX := am hnx
   have HPQ := am (show (∀ x ∈ pts.take (i + 1),x.f0 < n) ∧ (keys7 (ptsM (pts.take (i + 1)))).Nodup from ⟨HPN.out hkn,by
    rw [← hnx]
    unfold keys7
    rw [List.map_append,List.nodup_append]
    refine ⟨hndl,by simp,?_⟩
    intro a ha b hb2 e
    rw [List.map_cons,List.map_nil,List.mem_singleton] at hb2
    rw [hb2] at e
    rw [e] at ha
    exact hout ha⟩)
   clear hrd hk hY hL hnx hndl hout hba hXb hin
   go_wp2
   have hY1 : (wr.alloc (.cells #[.int .u64 (k : Int),.int .u64 Y] 56)).cell? ⟨wr.heap.size,1,none⟩ = some (.int .u64 Y) := (blk_cell (blk_new wr (.cells #[.int .u64 (k : Int),.int .u64 Y] 56)) 1).trans rfl
   refine start_ (n := 8) (S := (fun w' => w'.cell? ⟨w.heap.size + 1,64,none⟩ = some (.map (some w.heap.size)) ∧ w'.cell? ⟨wr.heap.size,1,none⟩ = some (.int .u64 Y))) (ds := [7]) (bz 8 0) (by kernel_rfl) rfl rfl ⟨hcm,hY1⟩ (fun hHeld => ?_)
   refine pu 0 39 (bz 8 1) ?_
   refine pu 1 40 (bz 8 3) ?_
   refine pu 2 41 (bz 8 7) ?_
   refine tu 3 42 (bz 8 15) hHeld ?_
   refine pu 4 43 (bz 8 31) ?_
   refine pu 5 44 (bz 8 63) ?_
   refine tu 6 45 (bz 8 127) hHeld ?_
   refine last_ (i := 7) (N := none) (bz 8 255) rfl rfl (by kernel_rfl) (by decide) (fun K hK => ?_)
   refine skip_ (w1 := ?_) (by rfl) rfl ?_ ?_
   rotate_left
   ·go_simp
    rfl
   refine hK.out _ _ ?_
   clear hK K
   refine done_ (by kernel_rfl) ?_
   clear hput hcm hY1 hlook
   obtain ⟨w5,hw5⟩ : ∃ W,W = putMp (wr.alloc (.cells #[.int .u64 (k : Int),.int .u64 Y] 56)).drew w.heap.size (L ++ [((k : Int),Y)]) := ⟨_,rfl⟩
   rw [← hw5]
   have hk64 : k < 64 := by omega
   have hb5 : w5.heap[w.heap.size + 1]? = some (.cells (maskC L w.heap.size).toArray 74 (0,0)) := by
    rw [hw5,putMp_other (by omega)];exact HMa.out.1
   have hm5 : MpAt w5 w.heap.size (L ++ [((k : Int),Y)]) := by
    rw [hw5];exact putMp_at (blk_lt HMa.out.2)
   have hB5 : Below w.heap.size w w5 := by
    rw [hw5];exact putMp_below (below_drew HBa.out) (Nat.le_refl _)
   have hc5 : w5.cell? ⟨w.heap.size + 1,k,none⟩ = some (.bool (decide ((k : Int) ∈ keys7 L))) := (blk_cell hb5 k).trans (maskC_at L _ k hk64)
   have hf5 := blk_frozen hb5 k
   have q4 : decide ((k : Int) < 64) = true := decide_eq_true (by omega)
   have q5 : ((k : Int) < 64) = True := eq_true (by omega)
   have q6 : ((0 : Int) ≤ (k : Int)) = True := eq_true (by omega)
   have HB6 := am (hB5.setCell (p := ⟨w.heap.size + 1,k,none⟩) (Nat.le_succ _) (.bool true))
   have HM6 := am (show MaskAt (w5.setCell ⟨w.heap.size + 1,k,none⟩ (.bool true)) (w.heap.size + 1) w.heap.size (ptsM (pts.take (i + 1))) from by
    rw [← HNX.out]
    exact ⟨blk_put hb5 k _ (maskC_set L _ k Y hk64),(Below.heap_setCell w5 ⟨w.heap.size + 1,k,none⟩ _ _ (by show w.heap.size ≠ w.heap.size + 1;omega)).trans hm5⟩)
   clear hw5 hb5 hm5 hB5
   go_wp2
   go_roundg (pts.length - (i + 1))
   case measure => have := HK.out;omega
   case rel => exact ⟨i + 1,by go_num,⟨by omega⟩,HPQ,HM6,HB6⟩
  ·have q0 : decide ((i : Int) < (pts.length : Int)) = false := decide_eq_false (by omega)
   have hn : i = pts.length := by have := HK.out;omega
   have hM := HM.out
   rw [hn,List.take_length] at hM
   have HMM := am hM
   clear hM
   go_wp2
   first|go_ret2|((try simp only [Exit.inBlock,Exit.then]);refine bodyPost_ret (results_tmp2 rfl _ _ _) rfl ?_)
   have hpo := HPO.out
   rw [hn,List.take_length] at hpo
   have hpy := plcB_iff.2 hpo
   exact ⟨⟨some ⟨w.heap.size + 1,0,none⟩,by rw [hpy];rfl,fun _ => ⟨_,_,rfl,HMM.out,by omega,by omega⟩⟩,HB.out⟩
theorem any_no {α : Type} {q : α → Bool} {l : List α} {n : Nat} (h : n < l.length) (hq : q l[n] = false) : (l.drop n).any q = (l.drop (n + 1)).any q := by rw [List.drop_eq_getElem_cons h,List.any_cons,hq,Bool.false_or]
theorem any_yes {α : Type} {q : α → Bool} {l : List α} {n : Nat} (h : n < l.length) (hq : q l[n] = true) : (l.drop n).any q = true := by rw [List.drop_eq_getElem_cons h,List.any_cons,hq,Bool.true_or]
theorem any_end {α : Type} {q : α → Bool} {l : List α} : (l.drop l.length).any q = false := by rw [List.drop_length];rfl
set_option maxHeartbeats 4000000 in
set_option maxRecDepth 100000 in
theorem idx_row (q : List Int → Bool) (bw : Nat) (A : Option Addr) (c : Nat) (l : List (List Int)) (w : World) (hr : Kd.C (Kd.slice 22 (Kd.int .u64)) w A l.length l) (hl : l.length ≤ 1000000000)
  (hcall : ∀ (W : World) (A4 : Option Addr) (c4 : Nat) (y : List Int),0 < l.length → Below w.heap.size w W → Calls Try.prog 88 #[.slice A4 y.length c4,.pointer (some ⟨bw,0,none⟩)] W fun e w' => e = .returned (.bool (q y)) ∧ Below w.heap.size w w') :
  Calls Try.prog 101 #[.slice A l.length c,.func (.func 88) #[] #[.pointer (some ⟨bw,0,none⟩)]] w fun e w' => ∃ r : Int,e = .returned (.int .i64 r) ∧ decide (0 ≤ r) = l.any q ∧ Below w.heap.size w w' := by
 have HR := Aside0.mk hr
 have HC := Aside0.mk hcall
 clear hr hcall
 go_enter Try.func101,Try.ntmps101
 go_wp2
 go_loopg [5,8] l.length (fun kq v5 v8 w' => ∃ (n : Nat),v8 = .int .i64 (n : Int) ∧ Aside0 (kq + n = l.length) ∧ Aside0 (l.any q = (l.drop n).any q) ∧ Aside0 (Below w.heap.size w w'))
 case atStart => exact ⟨0,rfl,⟨rfl⟩,⟨rfl⟩,⟨Below.refl _ _⟩⟩
 case round =>
  obtain ⟨n,rfl,HK,HN,HB⟩ := hrel
  by_cases hlt : n < l.length
  ·have p1 : ((0 : Int) ≤ (n : Int)) = True := eq_true (by omega)
   have q1 : ((n : Int) < (l.length : Int)) = True := eq_true (by omega)
   obtain ⟨ad,A4,c4,e1,hy1,hc4,hC4⟩ := at_L2 (Kd.C_below HR.out HB.out) (n : Int) (by omega) (by omega)
   cases e1
   rw [Int.toNat_natCast] at hy1
   have hrd : rd_L2 l (n : Int) = l[n] := by unfold rd_L2;rw [Int.toNat_natCast,List.getD_eq_getElem?_getD,List.getElem?_eq_getElem hlt];rfl
   obtain ⟨y,hy⟩ : ∃ y,y = rd_L2 l (n : Int) := ⟨_,rfl⟩
   rw [← hy] at hy1 hrd hc4 hC4
   have hc := HC.out wr A4 c4 y (by omega) HB.out
   clear hy hC4
   cases hq : q y with
   | true =>
    have hv : l.any q = true := by rw [HN.out];exact any_yes hlt (by rw [← hrd];exact hq)
    have HV := Aside0.mk hv
    rw [hq] at hc
    have HCC := Aside0.mk hc
    clear hv hq hc hrd
    go_wp2_with (first|(go_at_call 88;(with_reducible refine HCC.out.mono ?_);rintro e w' ⟨rfl,hb'⟩;have HB2 := Aside0.mk hb';clear hb'))
    first|go_ret|((try simp only [Exit.inBlock,Exit.then]);refine bodyPost_ret (results_tmp rfl _ _ _) rfl ?_)
    exact ⟨_,rfl,by rw [HV.out];exact decide_eq_true (by omega),HB2.out⟩
   | false =>
    have hv : l.any q = (l.drop (n + 1)).any q := by rw [HN.out];exact any_no hlt (by rw [← hrd];exact hq)
    have HV := Aside0.mk hv
    rw [hq] at hc
    have HCC := Aside0.mk hc
    clear hv hq hc hrd
    go_wp2_with (first|(go_at_call 88;(with_reducible refine HCC.out.mono ?_);rintro e w' ⟨rfl,hb'⟩;have HB2 := Aside0.mk hb';clear hb'))
    go_roundg (l.length - (n + 1))
    case measure => have := HK.out;omega
    case rel => exact ⟨n + 1,by go_num,⟨by omega⟩,HV,HB2⟩
  ·have hd : decide ((n : Int) < (l.length : Int)) = false := decide_eq_false (by omega)
   have hn : n = l.length := by have := HK.out;omega
   subst hn
   have hv : l.any q = false := by rw [HN.out];exact any_end
   have HV := Aside0.mk hv
   clear hv
   go_wp2
   first|go_ret|((try simp only [Exit.inBlock,Exit.then]);refine bodyPost_ret (results_tmp rfl _ _ _) rfl ?_)
   exact ⟨_,rfl,by rw [HV.out];rfl,HB.out⟩
theorem has_row (q : List Int → Bool) (bw : Nat) (A : Option Addr) (c : Nat) (l : List (List Int)) (w : World) (hr : Kd.C (Kd.slice 22 (Kd.int .u64)) w A l.length l) (hl : l.length ≤ 1000000000)
  (hcall : ∀ (W : World) (A4 : Option Addr) (c4 : Nat) (y : List Int),0 < l.length → Below w.heap.size w W → Calls Try.prog 88 #[.slice A4 y.length c4,.pointer (some ⟨bw,0,none⟩)] W fun e w' => e = .returned (.bool (q y)) ∧ Below w.heap.size w w') :
  Calls Try.prog 87 #[.slice A l.length c,.func (.func 88) #[] #[.pointer (some ⟨bw,0,none⟩)]] w fun e w' => e = .returned (.bool (l.any q)) ∧ Below w.heap.size w w' := by
 have hi := Aside0.mk (idx_row q bw A c l w hr hl hcall)
 clear hr hcall
 go_enter Try.func87,Try.ntmps87
 go_wp2_with (first|(go_at_call 101;(with_reducible refine hi.out.mono ?_);rintro e w' ⟨r,rfl,hv,hb'⟩;have HV := Aside0.mk hv;have HB2 := Aside0.mk hb';clear hv hb'))
 first|go_ret|((try simp only [Exit.inBlock,Exit.then]);refine bodyPost_ret (results_tmp rfl _ _ _) rfl ?_)
 exact ⟨by first|(rw [HV.out];done)|(rw [HV.out] <;> rfl)|(rw [← HV.out] <;> rfl),HB2.out⟩
def oddRow (l : List (List Int)) (y : List Int) : Bool := (y.length : Int) != ((rd_L2 l 0).length : Int)
set_option maxHeartbeats 4000000 in
set_option maxRecDepth 100000 in
theorem rect1_walk (A : Option Addr) (c : Nat) (l : List (List Int)) (bw : Nat) (w W : World) (hr : Kd.C (Kd.slice 22 (Kd.int .u64)) W A l.length l) (h0 : 0 < l.length) (hB : Below w.heap.size w W) (hbx : W.heap[bw]? = some (.cells #[.slice A l.length c] 25 (0,0)))
  (A4 : Option Addr) (c4 : Nat) (y : List Int) :
  Calls Try.prog 88 #[.slice A4 y.length c4,.pointer (some ⟨bw,0,none⟩)] W fun e w' => e = .returned (.bool (oddRow l y)) ∧ Below w.heap.size w w' := by
 have q1 : ((0 : Int) < (l.length : Int)) = True := eq_true (by omega)
 have q2 : (0 < l.length) = True := eq_true h0
 have hb0 : W.cell? ⟨bw,0,none⟩ = some (.slice A l.length c) := (blk_cell hbx 0).trans rfl
 obtain ⟨ad,A5,c5,e1,hy1,hc5,hC5⟩ := at_L2 hr (0 : Int) (by omega) (by omega)
 cases e1
 rw [show ((0 : Int)).toNat = 0 from rfl,Addr.add_zero'] at hy1
 have HB := Aside0.mk hB
 clear hB hbx hr hC5 hc5 h0
 go_enter Try.func88,Try.ntmps88
 go_wp2
 first|go_ret|((try simp only [Exit.inBlock,Exit.then]);refine bodyPost_ret (results_tmp rfl _ _ _) rfl ?_)
 exact ⟨rfl,HB.out⟩
def matrix_rect.f (l : List (List Int)) : Option Bool := if l.length ≤ 1000000000 then some (!l.any (oddRow l)) else none
set_option maxHeartbeats 4000000 in
set_option maxRecDepth 100000 in
theorem matrix_rect.calls (A0 : Option Addr) (c0 : Nat) (l0 : List (List Int)) (r : Bool) (w : World) (hr0 : Kd.C (Kd.slice 22 (Kd.int .u64)) w A0 l0.length l0) (hc0 : l0.length ≤ c0) (h : matrix_rect.f l0 = some r) :
  Calls Try.prog 55 #[.slice A0 l0.length c0] w fun e w' => e = .returned (.bool r) ∧ Below w.heap.size w w' := by
 unfold matrix_rect.f at h
 by_cases hl : l0.length ≤ 1000000000
 ·rw [if_pos hl] at h
  obtain rfl := Option.some.inj h
  have hb := below_alloc (Below.refl w.heap.size w) (.cells #[.slice A0 l0.length c0] 25)
  have hx := blk_new w (.cells #[.slice A0 l0.length c0] 25)
  have HH := Aside0.mk (has_row (oddRow l0) w.heap.size A0 c0 l0 (w.alloc (.cells #[.slice A0 l0.length c0] 25)) (Kd.C_below hr0 hb) hl (fun W A4 c4 y h0 hB => by
   exact rect1_walk A0 c0 l0 w.heap.size _ W (Kd.C_below (Kd.C_below hr0 hb) hB) h0 hB (blk_below hx hB) A4 c4 y))
  have HB := Aside0.mk hb
  clear hr0 h hb hx
  go_enter Try.func55,Try.ntmps55
  go_wp2_with (first|(go_at_call 87;(with_reducible refine HH.out.mono ?_);rintro e w' ⟨rfl,hb'⟩;have HB2 := Aside0.mk (below_step HB.out hb');clear hb'))
  first|go_ret|((try simp only [Exit.inBlock,Exit.then]);refine bodyPost_ret (results_tmp rfl _ _ _) rfl ?_)
  exact ⟨rfl,HB2.out⟩
 ·rw [if_neg hl] at h;cases h
theorem own_form0 {w : World} {base : Nat} {e : TypeId} {size n : Nat} {v : Value} {xs : List Value} (h : w.ownsRow base e size v n xs) (hn : 0 < n) : ∃ g cap,v = .slice (some ⟨g,0,none⟩) n cap ∧ base ≤ g ∧ g < w.heap.size ∧ n ≤ cap := by
 rcases h.2 with ⟨_,h0⟩|⟨g,cap,cur,rfl,hb,hg,hc,_⟩
 ·omega
 ·exact ⟨g,cap,rfl,hb,blk_lt hg,hc⟩
theorem own_ne0 {w : World} {base : Nat} {e e' : TypeId} {size n : Nat} {v : Value} {xs : List Value} {g : Nat} {cs : Array Value} (h : w.ownsRow base e size v n xs) (hb : w.heap[g]? = some (.cells cs e' (0,0))) (he : e ≠ e') : ∀ k,v.ownBlock = some k → k ≠ g := by
 rintro k hk rfl
 obtain ⟨cs2,h2⟩ := own_typed h k hk
 rw [h2] at hb
 injection hb with hb
 injection hb with _ hb
 exact he hb
theorem own_far0 {w : World} {base : Nat} {e : TypeId} {size n : Nat} {v u : Value} {xs : List Value} {g j : Nat} (h : w.ownsRow base e size v n xs) (hne : ∀ k,v.ownBlock = some k → k ≠ g) : (w.setCell ⟨g,j,none⟩ u).ownsRow base e size v n xs :=
 own_move h fun k hk => Below.heap_setCell w ⟨g,j,none⟩ u k (hne k hk)
theorem own_below0 {w w1 : World} {base : Nat} {e : TypeId} {size n : Nat} {v : Value} {xs : List Value} (h : w.ownsRow base e size v n xs) (hb : Below w.heap.size w w1) : w1.ownsRow base e size v n xs :=
 own_move h fun k hk => hb.block k (own_lt h k hk)
theorem own_grown0 {w w1 : World} {base : Nat} {e : TypeId} {size n : Nat} {v : Value} {xs : List Value} {row : Option Nat} (h : w.ownsRow base e size v n xs) (hg : w.grownBy w1 row) (hne : ∀ k,v.ownBlock = some k → some k ≠ row) : w1.ownsRow base e size v n xs :=
 own_move h fun k hk => hg.block k (own_lt h k hk) (hne k hk)
theorem own_typed2 {w : World} {base : Nat} {e : TypeId} {size n : Nat} {v : Value} {xs : List Value} {g : Nat} (h : w.ownsRow base e size v n xs) (hv : v.ownBlock = some g) : ∃ cs,w.heap[g]? = some (.cells cs e (0,0)) := own_typed h g hv
theorem cell_other0 {w : World} {b i k : Nat} {v u : Value} (h : i ≠ k) (hc : w.cell? ⟨b,k,none⟩ = some u) : (w.setCell ⟨b,i,none⟩ v).cell? ⟨b,k,none⟩ = some u := by
 have hne : (⟨b,i,none⟩ : Addr) ≠ ⟨b,k,none⟩ := by
  intro e
  injection e with _ e2
  exact h e2
 rw [← hc]
 exact World.cell?_setCell_other w ⟨b,i,none⟩ ⟨b,k,none⟩ v hne
structure Wk (w : World) (base bw : Nat) (p : Int) (mv : Value) (vs : List Value) (rs : List (List Int)) (pv : Value) (ps : List Int) (det : Int) : Prop where
 hbw : base ≤ bw
 box : w.heap[bw]? = some (.cells #[.int .u64 p,mv,pv,.int .u64 det] 84 (0,0))
 arr : w.ownsRow base 40 1 mv vs.length vs
 len : rs.length = vs.length
 row : ∀ (j : Nat) v r,vs[j]? = some v → rs[j]? = some r → w.ownsRow base 22 1 v r.length (nums .u64 r)
 apart : ∀ (i j b : Nat) u v,vs[i]? = some u → vs[j]? = some v → u.ownBlock = some b → v.ownBlock = some b → i = j
 piv : w.ownsRow base 3 1 pv ps.length (nums .i64 ps)
section
variable {w w1 : World} {base bw : Nat} {p : Int} {mv : Value} {vs : List Value} {rs : List (List Int)} {pv : Value} {ps : List Int} {det : Int}
theorem Wk.below (h : Wk w base bw p mv vs rs pv ps det) (hb : Below w.heap.size w w1) : Wk w1 base bw p mv vs rs pv ps det :=
 ⟨h.hbw,blk_below h.box hb,own_below0 h.arr hb,h.len,fun j v r hv hr => own_below0 (h.row j v r hv hr) hb,h.apart,own_below0 h.piv hb⟩
theorem Wk.drew (h : Wk w base bw p mv vs rs pv ps det) : Wk w.drew base bw p mv vs rs pv ps det := h.below (below_drew (Below.refl _ _))
theorem Wk.c0 (h : Wk w base bw p mv vs rs pv ps det) : w.cell? ⟨bw,0,none⟩ = some (.int .u64 p) := (blk_cell h.box 0).trans rfl
theorem Wk.c1 (h : Wk w base bw p mv vs rs pv ps det) : w.cell? ⟨bw,1,none⟩ = some mv := (blk_cell h.box 1).trans rfl
theorem Wk.c2 (h : Wk w base bw p mv vs rs pv ps det) : w.cell? ⟨bw,2,none⟩ = some pv := (blk_cell h.box 2).trans rfl
theorem Wk.c3 (h : Wk w base bw p mv vs rs pv ps det) : w.cell? ⟨bw,3,none⟩ = some (.int .u64 det) := (blk_cell h.box 3).trans rfl
theorem Wk.fz (h : Wk w base bw p mv vs rs pv ps det) (i : Nat) : w.frozen? ⟨bw,i,none⟩ = false := blk_frozen h.box i
theorem Wk.mform (h : Wk w base bw p mv vs rs pv ps det) (hm : 0 < rs.length) : ∃ bo co,mv = .slice (some ⟨bo,0,none⟩) rs.length co ∧ rs.length ≤ co ∧ base ≤ bo := by
 obtain ⟨g,cap,e,hb,_,hc⟩ := own_form0 h.arr (by rw [← h.len];exact hm)
 rw [← h.len] at e hc
 exact ⟨g,cap,e,hc,hb⟩
theorem Wk.rform (h : Wk w base bw p mv vs rs pv ps det) (i : Nat) (hi : i < rs.length) (h0 : 0 < rs[i].length) : ∃ b c,vs[i]? = some (.slice (some ⟨b,0,none⟩) rs[i].length c) ∧ rs[i].length ≤ c ∧ base ≤ b := by
 have hv : vs[i]? = some (vs[i]'(by rw [← h.len];exact hi)) := List.getElem?_eq_getElem _
 obtain ⟨g,cap,e,hb,_,hc⟩ := own_form0 (h.row i _ _ hv (List.getElem?_eq_getElem hi)) h0
 rw [e] at hv
 exact ⟨g,cap,hv,hc,hb⟩
theorem Wk.ahead {bo m co : Nat} (h : Wk w base bw p (.slice (some ⟨bo,0,none⟩) m co) vs rs pv ps det) {i : Nat} {v : Value} (hv : vs[i]? = some v) : w.cell? ⟨bo,i,none⟩ = some v := by
 have hi := (List.getElem?_eq_some_iff.1 hv).1
 have := h.arr.cells (g := bo) rfl i v hv
 rwa [Addr.add_lit,Nat.zero_add] at this
theorem Wk.rcell {i b n c : Nat} (h : Wk w base bw p mv vs rs pv ps det) (hv : vs[i]? = some (.slice (some ⟨b,0,none⟩) n c)) {r : List Int} (hr : rs[i]? = some r) {j : Nat} (hj : j < r.length) : w.cell? ⟨b,j,none⟩ = some (.int .u64 r[j]) := by
 have := (h.row i _ r hv hr).cells (g := b) rfl j (.int .u64 r[j]) (by unfold nums;rw [List.getElem?_map,List.getElem?_eq_getElem hj];rfl)
 rwa [Addr.add_lit,Nat.zero_add] at this
theorem Wk.rfz {i b n c : Nat} (h : Wk w base bw p mv vs rs pv ps det) (hv : vs[i]? = some (.slice (some ⟨b,0,none⟩) n c)) {r : List Int} (hr : rs[i]? = some r) (j : Nat) : w.frozen? ⟨b,j,none⟩ = false := by
 obtain ⟨cs,hc⟩ := own_typed2 (g := b) (h.row i _ r hv hr) rfl
 exact blk_frozen hc j
theorem Wk.afz {bo m co : Nat} (h : Wk w base bw p (.slice (some ⟨bo,0,none⟩) m co) vs rs pv ps det) (j : Nat) : w.frozen? ⟨bo,j,none⟩ = false := by
 obtain ⟨cs,hc⟩ := own_typed2 (g := bo) h.arr rfl
 exact blk_frozen hc j
theorem Wk.setRow {i b n c : Nat} (h : Wk w base bw p mv vs rs pv ps det) (hv : vs[i]? = some (.slice (some ⟨b,0,none⟩) n c)) {r : List Int} (hr : rs[i]? = some r) (j : Nat) (x : Int) :
  Wk (w.setCell ⟨b,j,none⟩ (.int .u64 x)) base bw p mv vs (rs.set i (r.set j x)) pv ps det := by
 have hi := h.row i _ r hv hr
 obtain ⟨cs,hc⟩ := own_typed2 (g := b) hi rfl
 have hil := (List.getElem?_eq_some_iff.1 hr).1
 refine ⟨h.hbw,(Below.heap_setCell w ⟨b,j,none⟩ _ bw ?_).trans h.box,own_far0 h.arr (own_ne0 h.arr hc (by decide)),by rw [List.length_set];exact h.len,?_,h.apart,own_far0 h.piv (own_ne0 h.piv hc (by decide))⟩
 ·rintro e
  have e2 : bw = b := e
  subst e2
  have hb := h.box
  rw [hc] at hb
  injection hb with hb
  injection hb with _ hb
  exact absurd hb (by decide)
 ·intro k v r' hkv hkr
  by_cases e : i = k
  ·subst e
   rw [hv] at hkv
   obtain rfl := Option.some.inj hkv
   rw [List.getElem?_set_self hil] at hkr
   obtain rfl := Option.some.inj hkr
   have hn : n = r.length := by
    rcases hi.2 with ⟨h1,_⟩|⟨_,_,_,h1,_⟩
    ·simp at h1
    ·simp only [Value.slice.injEq] at h1;exact h1.2.1
   subst hn
   have := (hi.stored j (.int .u64 x)).1
   rw [List.length_set,show nums .u64 (r.set j x) = (nums .u64 r).set j (.int .u64 x) from by simp [nums,List.map_set]]
   exact this
  ·rw [List.getElem?_set_ne e] at hkr
   have hk := h.row k v r' hkv hkr
   refine own_far0 hk ?_
   rintro g hg rfl
   exact e (h.apart i k g _ v hv hkv rfl hg)
theorem Wk.setDet (h : Wk w base bw p mv vs rs pv ps det) (x : Int) : Wk (w.setCell ⟨bw,3,none⟩ (.int .u64 x)) base bw p mv vs rs pv ps x :=
 ⟨h.hbw,blk_put h.box 3 _ rfl,own_far0 h.arr (own_ne0 h.arr h.box (by decide)),h.len,fun k v r hv hr => own_far0 (h.row k v r hv hr) (own_ne0 (h.row k v r hv hr) h.box (by decide)),h.apart,own_far0 h.piv (own_ne0 h.piv h.box (by decide))⟩
theorem Wk.swap {bo m co : Nat} (h : Wk w base bw p (.slice (some ⟨bo,0,none⟩) m co) vs rs pv ps det) (i k : Nat) {u v : Value} (hi : vs[i]? = some u) (hk : vs[k]? = some v) {r s : List Int} (hr : rs[i]? = some r) (hs : rs[k]? = some s) :
  Wk ((w.setCell ⟨bo,i,none⟩ v).setCell ⟨bo,k,none⟩ u) base bw p (.slice (some ⟨bo,0,none⟩) m co) ((vs.set i v).set k u) ((rs.set i s).set k r) pv ps det := by
 obtain ⟨cs,hc⟩ := own_typed2 (g := bo) h.arr rfl
 have hm : m = vs.length := by
  rcases h.arr.2 with ⟨h1,_⟩|⟨_,_,_,h1,_⟩
  ·simp at h1
  ·simp only [Value.slice.injEq] at h1;exact h1.2.1
 subst hm
 have hil := (List.getElem?_eq_some_iff.1 hi).1
 have hkl := (List.getElem?_eq_some_iff.1 hk).1
 have hil2 : i < rs.length := by rw [h.len];exact hil
 have hkl2 : k < rs.length := by rw [h.len];exact hkl
 have a1 := (h.arr.stored i v).1
 have a2 := (a1.stored k u).1
 have hc1 : ∃ cs1,(w.setCell ⟨bo,i,none⟩ v).heap[bo]? = some (.cells cs1 40 (0,0)) := own_typed2 (g := bo) a1 rfl
 obtain ⟨cs1,hc1⟩ := hc1
 have hbb : bw ≠ bo := by
  rintro rfl
  have hb := h.box
  rw [hc] at hb
  injection hb with hb
  injection hb with _ hb
  exact absurd hb (by decide)
 have two : ∀ {e : TypeId} {n : Nat} {v' : Value} {xs : List Value},e ≠ 40 → w.ownsRow base e 1 v' n xs → ((w.setCell ⟨bo,i,none⟩ v).setCell ⟨bo,k,none⟩ u).ownsRow base e 1 v' n xs := by
  intro e n v' xs he ho
  have o1 := own_far0 (g := bo) (j := i) (u := v) ho (own_ne0 ho hc he)
  exact own_far0 (g := bo) (j := k) (u := u) o1 (own_ne0 o1 hc1 he)
 have look : ∀ {α : Type} (l : List α) (a b : α),i < l.length → k < l.length → l[i]? = some b → l[k]? = some a → ∀ q x,((l.set i a).set k b)[q]? = some x → ∃ q',l[q']? = some x ∧ (q' = if q = k then i else if q = i then k else q) := by
  intro α l a b h1 h2 hb ha q x hq
  by_cases e1 : q = k
  ·subst e1
   rw [List.getElem?_set_self (by rw [List.length_set];exact h2)] at hq
   exact ⟨i,by rw [hb,hq],by rw [if_pos rfl]⟩
  ·rw [List.getElem?_set_ne (Ne.symm e1)] at hq
   by_cases e2 : q = i
   ·subst e2
    rw [List.getElem?_set_self h1] at hq
    exact ⟨k,by rw [ha,hq],by rw [if_neg e1,if_pos rfl]⟩
   ·rw [List.getElem?_set_ne (Ne.symm e2)] at hq
    exact ⟨q,hq,by rw [if_neg e1,if_neg e2]⟩
 refine ⟨h.hbw,(Below.heap_setCell _ ⟨bo,k,none⟩ u bw hbb).trans ((Below.heap_setCell w ⟨bo,i,none⟩ v bw hbb).trans h.box),?_,by simp only [List.length_set];exact h.len,?_,?_,two (by decide) h.piv⟩
 ·simp only [List.length_set];exact a2
 ·intro q v' r' hv' hr'
  obtain ⟨q1,h1,e1⟩ := look vs v u hil hkl hi hk q v' hv'
  obtain ⟨q2,h2,e2⟩ := look rs s r hil2 hkl2 hr hs q r' hr'
  rw [← e1] at e2
  subst e2
  exact two (by decide) (h.row q2 v' r' h1 h2)
 ·intro a b g x y hx hy hgx hgy
  obtain ⟨q1,h1,e1⟩ := look vs v u hil hkl hi hk a x hx
  obtain ⟨q2,h2,e2⟩ := look vs v u hil hkl hi hk b y hy
  have := h.apart q1 q2 g x y h1 h2 hgx hgy
  subst this
  rw [e1] at e2
  (repeat' split at e2) <;> omega
theorem Wk.push {pv1 : Value} {c : Int} (h : Wk w base bw p mv vs rs pv ps det) (hg : w.grownBy w1 pv.ownBlock) (hp : w1.ownsRow base 3 1 pv1 (ps ++ [c]).length (nums .i64 (ps ++ [c]))) :
  Wk (w1.setCell ⟨bw,2,none⟩ pv1) base bw p mv vs rs pv1 (ps ++ [c]) det := by
 have hty : ∀ k,pv.ownBlock = some k → ∃ cs,w.heap[k]? = some (.cells cs 3 (0,0)) := fun k hk => own_typed h.piv k hk
 have oth : ∀ {e : TypeId} {n : Nat} {v' : Value} {xs : List Value},e ≠ 3 → w.ownsRow base e 1 v' n xs → w1.ownsRow base e 1 v' n xs := by
  intro e n v' xs he ho
  refine own_grown0 ho hg ?_
  intro k hk e2
  obtain ⟨cs,hc⟩ := hty k e2.symm
  exact own_ne0 ho hc he k hk rfl
 have hb1 : w1.heap[bw]? = some (.cells #[.int .u64 p,mv,pv,.int .u64 det] 84 (0,0)) := by
  refine (hg.block bw (blk_lt h.box) ?_).trans h.box
  intro e2
  obtain ⟨cs,hc⟩ := hty bw e2.symm
  have hb := h.box
  rw [hc] at hb
  injection hb with hb
  injection hb with _ hb
  exact absurd hb (by decide)
 have fin : ∀ {e : TypeId} {n : Nat} {v' : Value} {xs : List Value},e ≠ 84 → w1.ownsRow base e 1 v' n xs → (w1.setCell ⟨bw,2,none⟩ pv1).ownsRow base e 1 v' n xs := fun he ho => own_far0 ho (own_ne0 ho hb1 he)
 exact ⟨h.hbw,blk_put hb1 2 _ rfl,fin (by decide) (oth (by decide) h.arr),h.len,fun k v r hv hr => fin (by decide) (oth (by decide) (h.row k v r hv hr)),h.apart,fin (by decide) hp⟩
end
def HdrAt (w : World) (vs : List Value) (l : List (List Int)) : Prop := vs.length = l.length ∧ ∀ (j : Nat) r,l[j]? = some r → ∃ A c,vs[j]? = some (.slice A r.length c) ∧ r.length ≤ c ∧ Kd.C (Kd.int .u64) w A r.length r
theorem HdrAt.below {w w1 : World} {vs : List Value} {l : List (List Int)} (h : HdrAt w vs l) (hb : Below w.heap.size w w1) : HdrAt w1 vs l :=
 ⟨h.1,fun j r hr => by obtain ⟨A,c,h1,h2,h3⟩ := h.2 j r hr;exact ⟨A,c,h1,h2,Kd.C_below h3 hb⟩⟩
theorem hdrs_of {w : World} {ad : Addr} {l : List (List Int)} (hr : Kd.C (Kd.slice 22 (Kd.int .u64)) w (some ad) l.length l) : ∃ vs,HdrAt w vs l ∧ Kd.C (Kd.raw 1) w (some ad) l.length (vs.map fun v => [v]) := by
 have hg : ∀ (j : Nat) r,l[j]? = some r → ∃ A c,w.cell? (ad.add j) = some (.slice A r.length c) ∧ r.length ≤ c ∧ Kd.C (Kd.int .u64) w A r.length r := by
  intro j r hj
  have hjl := (List.getElem?_eq_some_iff.1 hj).1
  obtain ⟨a2,e,hc⟩ := hr.2.2 (by omega)
  cases e
  obtain ⟨cs,hl,⟨A,c,rfl,h1,h2⟩,hcell⟩ := hc j r hj
  exact ⟨A,c,by have := hcell 0 _ rfl;rwa [show (Kd.slice 22 (Kd.int .u64)).sz = 1 from rfl,Nat.mul_one,Nat.add_zero] at this,h1,h2⟩
 refine ⟨l.mapIdx fun j _ => (w.cell? (ad.add j)).getD (.slice none 0 0),⟨by simp,?_⟩,?_⟩
 ·intro j r hj
  obtain ⟨A,c,h1,h2,h3⟩ := hg j r hj
  refine ⟨A,c,?_,h2,h3⟩
  rw [List.getElem?_mapIdx,hj]
  simp [h1]
 ·refine ⟨by simp,hr.2.1,fun _ => ⟨ad,rfl,fun j p hp => ?_⟩⟩
  rw [List.getElem?_map,List.getElem?_mapIdx] at hp
  obtain ⟨v,hv,rfl⟩ := Option.map_eq_some_iff.1 hp
  obtain ⟨r,hrj,rfl⟩ := Option.map_eq_some_iff.1 hv
  obtain ⟨A,c,h1,h2,h3⟩ := hg j r hrj
  refine ⟨_,rfl,⟨rfl,rfl,?_⟩,?_⟩
  ·intro u hu
   rw [List.mem_singleton.1 hu,h1];rfl
  ·intro i u hu
   rcases i with _|i
   ·simp only [List.getElem?_cons_zero,Option.some.injEq] at hu
    rw [← hu,h1,show (Kd.raw 1).sz = 1 from rfl,Nat.mul_one,Nat.add_zero,h1];rfl
   ·simp at hu
theorem raw_own {e : Nat} {w : World} {base : Nat} {ok : Nat → Prop} {v : Value} {vs : List Value} (h : (Kd.raw 1).R e w base ok v (vs.map fun v => [v])) : w.ownsRow base e 1 v vs.length vs := by
 obtain ⟨_,inner,ho,hr⟩ := h
 have hl : inner.length = vs.length := by have := hr.1;rw [List.length_map,show (Kd.raw 1).sz = 1 from rfl,Nat.mul_one] at this;exact this
 have : inner = vs := by
  apply List.ext_getElem hl
  intro j h1 h2
  have hj : (inner.drop (j * 1)).take 1 = [vs[j]] := (hr.2 j [vs[j]] (by rw [List.getElem?_map,List.getElem?_eq_getElem h2];rfl)).1
  rw [Nat.mul_one,List.drop_eq_getElem_cons h1] at hj
  have hj2 : inner[j] :: (inner.drop (j + 1)).take 0 = [vs[j]] := hj
  exact (List.cons.inj hj2).1
 subst this
 rw [List.length_map] at ho
 exact ho
set_option maxHeartbeats 1000000 in
set_option maxRecDepth 100000 in
theorem clone_rows (A : Option Addr) (c : Nat) (l : List (List Int)) (w : World) (hr : Kd.C (Kd.slice 22 (Kd.int .u64)) w A l.length l) (hc : l.length ≤ c) (h0 : 0 < l.length) (hl : l.length ≤ 1000000) :
  Calls Try.prog 85 #[.slice A l.length c] w fun e w' => ∃ (v0_ : Value) (vs : List Value),e = .returned (v0_) ∧ Aside0 (HdrAt w vs l ∧ w'.ownsRow w.heap.size 40 1 v0_ vs.length vs) ∧ Below w.heap.size w w' := by
 obtain ⟨a,rfl⟩ : ∃ a,A = some a := by
  obtain ⟨a,e,_⟩ := hr.2.2 h0
  exact ⟨a,e⟩
 obtain ⟨vs,hvs,hraw⟩ := hdrs_of hr
 have HV := Aside0.mk hvs
 have HR := Aside0.mk hraw
 clear hr hvs hraw
 have heq : ∀ W : World,(binOp .eql 25 (.slice (some a) l.length c) (.slice none 0 0)).run Try.prog W = .ok (.bool false) W := fun W => Lib.run_eql_slice_nil W 25 40 (some a) l.length c 0 0 Try.underlying25
 go_enter Try.func85,Try.ntmps85
 go_wp2_with (first
  | ((with_reducible refine gate_dst (N := 5) rfl ?_);refine Kd.R_lit (Kd.raw 1) _ 40 ?hg (N := 5) ?hd (xs := ([] : List (List Value))) (inner := []) (ok := fun _ => True) (okp := fun _ => True) ?hr ?hp (fun _ hk => hk) trivial (Below.refl _ _) (Nat.le_refl _) (by simp) ?_;(case hd => rfl);(case hg => rfl);(case hr => first|(go_simp;done)|(go_simp;rfl));(case hp => exact (Reps.none _ _));intro v1 w1 ho1 hb1 hg1 hn1;clear hg1 hn1;have HO1 := Aside0.mk ho1;have HB1 := Aside0.mk hb1;clear ho1 hb1)
  | ((with_reducible refine gate_builtin (b := .append) (xs := #[.tmp 5,.tmp 6]) rfl ?_);at_builtin;refine Kd.R_append_rows (Kd.raw 1) (w0 := w) w.heap.size rfl (.tmp 5) (.tmp 6) 25 40 (.slice none 0 0) 24 rfl Try.underlying25 info40 rfl (by decide) (by omega) v1 [] (vs.map fun v => [v]) _ _ _ (fun _ => True) (fun _ => False) rfl rfl HO1.out (Kd.C_below HR.out HB1.out) (fun _ _ h => h) (fun _ h => h.elim) (fun _ _ => trivial) HB1.out (below_size HB1.out) (by simp;omega) ?_;intro v2 w2 ho2 hb2 hg2 ha2;clear hg2 ha2;have HO2 := Aside0.mk ho2;have HB2 := Aside0.mk hb2;clear ho2 hb2))
 go_ret
 exact ⟨_,vs,rfl,⟨HV.out,raw_own (by simpa using HO2.out)⟩,HB2.out⟩
end Go.Proofs.Ytmdoaijkaaaglaa.Hw
end
section
namespace Go.Proofs.Ytmdoaijkaaaglaa.Hw
open Go.Proofs.Ytmdoaijkaaaglaa.E
def part {α : Type} (new old : List α) (j : Nat) : List α := new.take j ++ old.drop j
section
variable {α : Type} {new old : List α} {j : Nat}
theorem part_len (h : new.length = old.length) (hj : j ≤ old.length) : (part new old j).length = old.length := by
 unfold part;rw [List.length_append,List.length_take,List.length_drop];omega
theorem part_zero : part new old 0 = old := by simp [part]
theorem part_all (h : new.length = old.length) : part new old old.length = new := by unfold part;rw [List.drop_length,List.append_nil,List.take_of_length_le (by omega)]
theorem part_at (h : new.length = old.length) (hj : j < old.length) : (part new old j)[j]? = some old[j] := by
 unfold part
 rw [List.getElem?_append_right (by rw [List.length_take];omega),List.length_take,Nat.min_eq_left (by omega),Nat.sub_self,List.getElem?_drop,Nat.add_zero,List.getElem?_eq_getElem hj]
theorem part_set (h : new.length = old.length) (hj : j < old.length) : (part new old j).set j (new[j]'(by omega)) = part new old (j + 1) := by
 unfold part
 have hjn : j < new.length := by omega
 have hlt : (new.take j).length = j := by rw [List.length_take];omega
 rw [List.set_append_right _ _ (by omega),hlt,Nat.sub_self,List.drop_eq_getElem_cons hj,List.set_cons_zero,List.take_succ_eq_append_getElem hjn,List.append_assoc]
 rfl
theorem part_get (h : new.length = old.length) (hj : j ≤ old.length) (q : Nat) : (part new old j)[q]? = if q < j then new[q]? else old[q]? := by
 unfold part
 have hlt : (new.take j).length = j := by rw [List.length_take];omega
 by_cases e : q < j
 ·rw [if_pos e,List.getElem?_append_left (by omega),List.getElem?_take_of_lt e]
 ·rw [if_neg e,List.getElem?_append_right (by omega),hlt,List.getElem?_drop,show j + (q - j) = q from by omega]
theorem part_same (h : new.length = old.length) (hj : j < old.length) (he : new[j]? = old[j]?) : part new old (j + 1) = part new old j := by
 apply List.ext_getElem?
 intro q
 rw [part_get h (by omega),part_get h (by omega)]
 by_cases e : q = j
 ·subst e
  rw [if_pos (by omega),if_neg (by omega),he]
 ·by_cases e2 : q < j
  ·rw [if_pos (by omega),if_pos e2]
  ·rw [if_neg (by omega),if_neg e2]
theorem set_at {l : List α} {i : Nat} {x : α} (h : l[i]? = some x) : l.set i x = l := by
 apply List.ext_getElem?
 intro q
 by_cases e : i = q
 ·subst e
  rw [List.getElem?_set_self (List.getElem?_eq_some_iff.1 h).1,h]
 ·rw [List.getElem?_set_ne e]
end
def fndP (rs : List (List Int)) (c r : Nat) : Nat := r + (rs.drop r).findIdx (fun row => row.getD c 0 != 0)
theorem fndP_ge (rs : List (List Int)) (c r : Nat) : r ≤ fndP rs c r := Nat.le_add_right _ _
theorem fndP_le (rs : List (List Int)) (c r : Nat) (h : r ≤ rs.length) : fndP rs c r ≤ rs.length := by
 unfold fndP
 have := List.findIdx_le_length (xs := rs.drop r) (p := fun row => row.getD c 0 != 0)
 rw [List.length_drop] at this
 omega
theorem fndP_nz {rs : List (List Int)} {c r : Nat} (h : fndP rs c r < rs.length) : (rs[fndP rs c r]).getD c 0 ≠ 0 := by
 have h1 : (rs.drop r).findIdx (fun row => row.getD c 0 != 0) < (rs.drop r).length := by
  rw [List.length_drop];unfold fndP at h;omega
 have := List.findIdx_getElem (w := h1)
 rw [List.getElem_drop] at this
 simpa [fndP] using this
theorem fndP_zero {rs : List (List Int)} {c r i : Nat} (h0 : r ≤ i) (h1 : i < fndP rs c r) (hi : i < rs.length) : (rs[i]).getD c 0 = 0 := by
 have h2 : i - r < (rs.drop r).findIdx (fun row => row.getD c 0 != 0) := by unfold fndP at h1;omega
 have := List.not_of_lt_findIdx h2
 rw [List.getElem_drop] at this
 simpa [show r + (i - r) = i from by omega] using this
def scaleR (p k : Int) (row : List Int) : List Int := row.map fun v => k * v % p
def elimR (p k : Int) (prow row : List Int) : List Int := List.zipWith (fun a v => (a - k * v % p) % p) row prow
def swapR (rs : List (List Int)) (i k : Nat) : List (List Int) := (rs.set i (rs.getD k [])).set k (rs.getD i [])
def elimRow (p : Int) (c r : Nat) (prow : List Int) (i : Nat) (row : List Int) : List Int := if i = r ∨ row.getD c 0 = 0 then row else elimR p (row.getD c 0) prow row
def elimAll (p : Int) (c r : Nat) (prow : List Int) (rs : List (List Int)) : List (List Int) := rs.mapIdx (elimRow p c r prow)
def redStep (p : Int) (s : List (List Int) × List Int × Int) (c : Nat) : List (List Int) × List Int × Int :=
 if fndP s.1 c s.2.1.length < s.1.length then
  let r := s.2.1.length
  let rs1 := if fndP s.1 c r = r then s.1 else swapR s.1 (fndP s.1 c r) r
  let d1 := if fndP s.1 c r = r then s.2.2 else -s.2.2 % p
  let x := (rs1.getD r []).getD c 0
  let prow := scaleR p (invp p x) (rs1.getD r [])
  (elimAll p c r prow (rs1.set r prow),s.2.1 ++ [(c : Int)],d1 * x % p)
 else s
def red (p : Int) (rs : List (List Int)) (n : Nat) : List (List Int) × List Int × Int := (List.range n).foldl (redStep p) (rs,[],1)
theorem red_succ (p : Int) (rs : List (List Int)) (n : Nat) : red p rs (n + 1) = redStep p (red p rs n) n := by
 unfold red;rw [List.range_succ,List.foldl_append];rfl
def RowsOk (p : Int) (n : Nat) (rs : List (List Int)) : Prop := ∀ r ∈ rs,r.length = n ∧ ∀ x ∈ r,Res p x
theorem RowsOk.at {p : Int} {n : Nat} {rs : List (List Int)} (h : RowsOk p n rs) {i : Nat} (hi : i < rs.length) : rs[i].length = n ∧ ∀ x ∈ rs[i],Res p x := h _ (List.getElem_mem hi)
theorem RowsOk.word {p : Int} {n : Nat} {rs : List (List Int)} (h : RowsOk p n rs) {i c : Nat} (hi : i < rs.length) (hc : c < rs[i].length) : Res p (rs[i][c]) := (h.at hi).2 _ (List.getElem_mem hc)
theorem RowsOk.set {p : Int} {n : Nat} {rs : List (List Int)} (h : RowsOk p n rs) {i : Nat} {r : List Int} (hr : r.length = n ∧ ∀ x ∈ r,Res p x) : RowsOk p n (rs.set i r) := by
 intro y hy
 rcases List.mem_or_eq_of_mem_set hy with h1|rfl
 ·exact h y h1
 ·exact hr
theorem scaleR_len (p k : Int) (row : List Int) : (scaleR p k row).length = row.length := by simp [scaleR]
theorem scaleR_ok {p k : Int} (hp : Supp p) {row : List Int} {n : Nat} (h : row.length = n) : (scaleR p k row).length = n ∧ ∀ x ∈ scaleR p k row,Res p x := by
 refine ⟨by rw [scaleR_len,h],fun x hx => ?_⟩
 obtain ⟨y,_,rfl⟩ := List.mem_map.1 hx
 exact Res.mod hp _
theorem elimR_len {p k : Int} {prow row : List Int} (h : prow.length = row.length) : (elimR p k prow row).length = row.length := by simp [elimR];omega
theorem elimR_ok {p k : Int} (hp : Supp p) {prow row : List Int} {n : Nat} (h1 : prow.length = n) (h2 : row.length = n) : (elimR p k prow row).length = n ∧ ∀ x ∈ elimR p k prow row,Res p x := by
 refine ⟨by rw [elimR_len (by omega),h2],?_⟩
 unfold elimR
 intro x hx
 obtain ⟨i,hi,rfl⟩ := List.getElem_of_mem hx
 rw [List.getElem_zipWith]
 exact Res.mod hp _
theorem elimR_at {p k : Int} {prow row : List Int} {j : Nat} (h1 : j < row.length) (h2 : j < prow.length) : (elimR p k prow row)[j]? = some ((row[j] - k * prow[j] % p) % p) := by
 unfold elimR
 rw [List.getElem?_zipWith,List.getElem?_eq_getElem h1,List.getElem?_eq_getElem h2]
theorem elimAll_len (p : Int) (c r : Nat) (prow : List Int) (rs : List (List Int)) : (elimAll p c r prow rs).length = rs.length := by simp [elimAll]
theorem elimAll_at (p : Int) (c r : Nat) (prow : List Int) (rs : List (List Int)) {i : Nat} (hi : i < rs.length) : (elimAll p c r prow rs)[i]'(by rw [elimAll_len];exact hi) = elimRow p c r prow i rs[i] := by simp [elimAll]
theorem elimRow_ok {p : Int} (hp : Supp p) {c r n i : Nat} {prow row : List Int} (h1 : prow.length = n) (h2 : row.length = n ∧ ∀ x ∈ row,Res p x) : (elimRow p c r prow i row).length = n ∧ ∀ x ∈ elimRow p c r prow i row,Res p x := by
 unfold elimRow
 split
 ·exact h2
 ·exact elimR_ok hp h1 h2.1
theorem elimAll_ok {p : Int} (hp : Supp p) {c r n : Nat} {prow : List Int} {rs : List (List Int)} (h1 : prow.length = n) (h : RowsOk p n rs) : RowsOk p n (elimAll p c r prow rs) := by
 intro x hx
 obtain ⟨i,hi,rfl⟩ := List.getElem_of_mem hx
 have hi2 : i < rs.length := by rw [elimAll_len] at hi;exact hi
 rw [elimAll_at p c r prow rs hi2]
 exact elimRow_ok hp h1 (h.at hi2)
theorem swapR_len (rs : List (List Int)) (i k : Nat) : (swapR rs i k).length = rs.length := by simp [swapR]
theorem getD_row {rs : List (List Int)} {i : Nat} (h : i < rs.length) : rs.getD i [] = rs[i] := by rw [List.getD_eq_getElem?_getD,List.getElem?_eq_getElem h];rfl
theorem swapR_ok {p : Int} {n : Nat} {rs : List (List Int)} {i k : Nat} (h : RowsOk p n rs) (hi : i < rs.length) (hk : k < rs.length) : RowsOk p n (swapR rs i k) := by
 unfold swapR
 rw [getD_row hi,getD_row hk]
 exact (h.set (h.at hk)).set (h.at hi)
theorem swapR_at {rs : List (List Int)} {i k : Nat} (hi : i < rs.length) (hk : k < rs.length) : (swapR rs i k)[k]? = some rs[i] := by
 unfold swapR
 rw [List.getElem?_set_self (by rw [List.length_set];exact hk),getD_row hi]
theorem elimAll_get (p : Int) (c r : Nat) (prow : List Int) (rs : List (List Int)) {i : Nat} (hi : i < rs.length) : (elimAll p c r prow rs)[i]? = some (elimRow p c r prow i rs[i]) := by
 rw [List.getElem?_eq_getElem (by rw [elimAll_len];exact hi),elimAll_at p c r prow rs hi]
structure RedOk (p : Int) (m n : Nat) (s : List (List Int) × List Int × Int) : Prop where
 len : s.1.length = m
 rows : RowsOk p n s.1
 piv : s.2.1.length ≤ m
 det : Res p s.2.2
theorem redStep_ok {p : Int} (hp : Supp p) {m n : Nat} {s : List (List Int) × List Int × Int} (h : RedOk p m n s) (c : Nat) : RedOk p m n (redStep p s c) := by
 unfold redStep
 split
 next hq =>
  have hge := fndP_ge s.1 c s.2.1.length
  have hr : s.2.1.length < s.1.length := by omega
  have hm := h.len
  have ok1 : RowsOk p n (if fndP s.1 c s.2.1.length = s.2.1.length then s.1 else swapR s.1 (fndP s.1 c s.2.1.length) s.2.1.length) ∧ (if fndP s.1 c s.2.1.length = s.2.1.length then s.1 else swapR s.1 (fndP s.1 c s.2.1.length) s.2.1.length).length = m := by
   split
   ·exact ⟨h.rows,h.len⟩
   ·exact ⟨swapR_ok h.rows hq hr,by rw [swapR_len];exact h.len⟩
  obtain ⟨rs1,hrs1⟩ : ∃ x,x = (if fndP s.1 c s.2.1.length = s.2.1.length then s.1 else swapR s.1 (fndP s.1 c s.2.1.length) s.2.1.length) := ⟨_,rfl⟩
  rw [← hrs1] at ok1
  simp only [← hrs1]
  have hr1 : s.2.1.length < rs1.length := by omega
  have hs := scaleR_ok (k := invp p ((rs1.getD s.2.1.length []).getD c 0)) hp (show (rs1.getD s.2.1.length []).length = n from by rw [getD_row hr1];exact (ok1.1.at hr1).1)
  refine ⟨?_,?_,?_,?_⟩
  ·show (elimAll _ _ _ _ _).length = m
   rw [elimAll_len,List.length_set];exact ok1.2
  ·exact elimAll_ok hp hs.1 (ok1.1.set hs)
  ·show (s.2.1 ++ [(c : Int)]).length ≤ m
   rw [List.length_append];simp;omega
  ·exact Res.mod hp _
 next => exact h
theorem red_ok {p : Int} (hp : Supp p) {n : Nat} {rs : List (List Int)} (h : RowsOk p n rs) : ∀ k,RedOk p rs.length n (red p rs k)
 | 0 => ⟨rfl,h,Nat.zero_le _,by have := hp.bd;exact ⟨by show (0 : Int) ≤ 1;decide,by show (1 : Int) < p;omega⟩⟩
 | k + 1 => by rw [red_succ];exact redStep_ok hp (red_ok hp h k) k
end Go.Proofs.Ytmdoaijkaaaglaa.Hw
end
