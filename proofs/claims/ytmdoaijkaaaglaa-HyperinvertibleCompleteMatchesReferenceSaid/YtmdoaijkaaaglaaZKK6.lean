/- Part 6 of the proof's texts, joined in build order. -/
import Derived.Test.YtmdoaijkaaaglaaZKK5
set_option linter.unusedVariables false
set_option linter.unusedSimpArgs false
section
namespace Go.Proofs.Ytmdoaijkaaaglaa.Hw
open Go.RowKit Go.Proofs.Ytmdoaijkaaaglaa.Pr Go.Proofs.YtmdoaijkaaaglaaW.PrintWords Go.Proofs.YtmdoaijkaaaglaaW.PrintLast Go.Proofs.YtmdoaijkaaaglaaW.PrintMore Go.Proofs.Ytmdoaijkaaaglaa.E
set_option maxHeartbeats 16000000 in
set_option maxRecDepth 100000 in
theorem complete_ok {p : Int} {m : List (List Int)} {ins outs : List S56} (h : CpOk p m ins outs) (A1 : Option Addr) (c1 : Nat) (A2 : Option Addr) (c2 : Nat) (A3 : Option Addr) (c3 : Nat) (w : World) (hr1 : Kd.C (Kd.slice 22 (Kd.int .u64)) w A1 m.length m) (hc1 : m.length ≤ c1) (hr2 : Kd.C k56 w A2 ins.length ins) (hc2 : ins.length ≤ c2) (hr3 : Kd.C k56 w A3 outs.length outs) (hc3 : outs.length ≤ c3) (hg : cpGo m ins outs = true) :
  Calls Try.prog 22 #[.int .u64 p,.slice A1 m.length c1,.slice A2 ins.length c2,.slice A3 outs.length c3] w fun e w' => CpRet (cpR p m ins outs) w e w' ∧ Below w.heap.size w w' := by
 have HH := am h
 have HR1 := am hr1
 have HR2 := am hr2
 have HR3 := am hr3
 have hli := h.li
 have hlo := h.lo
 have HGO := am hg
 obtain ⟨hfl,hpa,hpb,hsum⟩ := cpGo_iff.1 hg
 obtain ⟨kf,hkf⟩ := (flat_ev m (by have := h.lm;omega)).rounds
 rw [hfl] at hkf
 have HF := am hkf
 obtain ⟨h0,hn0,hrect⟩ := flatB_iff.1 hfl
 have hn60 : cpN m ≤ 60 := by
  have h1 : m.getD 0 [] ∈ m := by rw [List.getD_eq_getElem?_getD,List.getElem?_eq_getElem h0];exact List.getElem_mem h0
  exact (h.rows _ h1).1
 have hm60 := h.lm
 obtain ⟨ad,A0,c0,e1,hx0,hc0,_⟩ := at_L2 hr1 (0 : Int) (by omega) (by omega)
 cases e1
 rw [show ((0 : Int)).toNat = 0 from rfl,Addr.add_zero',show (rd_L2 m 0).length = cpN m from by rw [show (0 : Int) = ((0 : Nat) : Int) from rfl,rdM_nat];rfl] at hx0
 have HX0 := am hx0
 have HKA := am (fun W (hW : Below w.heap.size w W) => known_any A2 c2 ins (cpN m : Int) (by omega) W (Kd.C_below HR2.out hW) hc2 (by omega) (by omega) (fun x hx => (HH.out.pi x hx).1))
 have HKB := am (fun W (hW : Below w.heap.size w W) => known_any A3 c3 outs (m.length : Int) (by omega) W (Kd.C_below HR3.out hW) hc3 (by omega) (by omega) (fun x hx => (HH.out.po x hx).1))
 unfold KnwR at HKA HKB
 rw [hpa] at HKA
 rw [hpb] at HKB
 have HNA := am (plcB_iff.1 hpa).2
 have HKI := am (keys_in hpa fun x hx => (h.pi x hx).1.1)
 have HNB := am (plcB_iff.1 hpb).2
 have HRE := am hrect
 have HA0 := am (show cpAll0 m ins = (List.range (cpN m)).map fun (k : Nat) => val7 (ptsM ins) (k : Int) from rfl)
 have hrl0 := am (show cpRows m outs = selR (keys7 (ptsM outs)) true m.length from rfl)
 have hcl0 := am (show cpCols m ins = selR (keys7 (ptsM ins)) false (cpN m) from rfl)
 obtain ⟨n,hn⟩ : ∃ n,n = cpN m := ⟨_,rfl⟩
 have HN := am hn
 rw [← hn] at hn0 hn60 hx0 HX0 HKA hsum HKI HRE HA0 hcl0
 obtain ⟨LA,hLA⟩ : ∃ L,L = ptsM ins := ⟨_,rfl⟩
 obtain ⟨LB,hLB⟩ : ∃ L,L = ptsM outs := ⟨_,rfl⟩
 rw [← hLA] at HKA HNA HKI HA0 hcl0
 rw [← hLB] at HKB HNB hrl0
 have HLA := am hLA
 have HLB := am hLB
 have q1 : ((0 : Int) < (m.length : Int)) = True := eq_true (by omega)
 have q2 : (0 < m.length) = True := eq_true h0
 have z1 : ((ins.length : Int) + (outs.length : Int) != (n : Int)) = false := by rw [hsum];simp
 clear h hr1 hr2 hr3 hg hkf hpa hpb hfl hrect hn hx0 hsum hLA hLB
 go_enter Try.func22,Try.ntmps22
 go_wp2_with (first
  | (go_at_call 40;(with_reducible refine (hyperinvertible_flat.calls kf _ _ _ true _ HR1.out hc1 HF.out).mono ?_);rintro e w1 ⟨rfl,hd1⟩;have HB1 := am (below_drawn7 hd1);have hx1 := pw_cell_below HB1.out HX0.out;clear hd1)
  | (go_at_call 41;(with_reducible refine (HKA.out _ HB1.out).mono ?_);rintro e w2 ⟨⟨a2,rfl,hma⟩,hb2⟩;obtain ⟨bma,bpa,ea,hm2,_,_⟩ := hma trivial;subst ea;have HMA := am hm2;have HB2 := am (below_step HB1.out hb2);have hx2 := pw_cell_below HB2.out HX0.out;clear hb2 hma hm2)
  | (go_at_call 41;(with_reducible refine (HKB.out _ HB2.out).mono ?_);rintro e w3 ⟨⟨a3,rfl,hmb⟩,hb3⟩;obtain ⟨bmb,bpb,eb,hm3,_,_⟩ := hmb trivial;subst eb;have HMM := am (show MaskAt w3 bma bpa LA ∧ MaskAt w3 bmb bpb LB from ⟨HMA.out.below hb3,hm3⟩);have HB3 := am (below_step HB2.out hb3);have hx3 := pw_cell_below HB3.out HX0.out;clear hb3 hmb hm3 HMA))
 go_loopg [15,72] m.length (fun kq v15 v72 w' => ∃ (i : Nat),v72 = .int .i64 (i : Int) ∧ Aside0 (kq + i = m.length) ∧ Aside0 (Kd.R (Kd.int .i64) 3 w' w3.heap.size (fun _ => True) v15 (selR (keys7 LB) true i)) ∧ Aside0 (Below w3.heap.size w3 w'))
 case atStart => exact ⟨0,rfl,⟨rfl⟩,⟨Kd.R_nil _ _ _ _ _⟩,⟨Below.refl _ _⟩⟩
 case round =>
  as_aux_lemma =>
   clear HB1 HB2 hx1 hx2 hx3 HKA HKB HF HR2 HR3
   obtain ⟨i,rfl,HK,HO,HB⟩ := hrel
   by_cases hlt : i < m.length
   ·
    have r1 : ((i : Int) < (m.length : Int)) = True := eq_true (by omega)
    have r2 : decide (i < m.length) = true := decide_eq_true hlt
    have HW := am (has_walk bmb bpb LB wr (HMM.out.2.below HB.out) i (by omega))
    have hsl := selR_len_le (keys7 LB) true i
    by_cases hin : (i : Int) ∈ keys7 LB
    ·have HS := am (show selR (keys7 LB) true i ++ [(i : Int)] = selR (keys7 LB) true (i + 1) from by rw [selR_next,decide_eq_true hin];rfl)
     rw [decide_eq_true hin] at HW
     clear hin
     go_wp2_with (first
      | (go_at_call 42;(with_reducible refine HW.out.mono ?_);rintro e w4 ⟨rfl,hb4⟩;have HB4 := am (below_step HB.out hb4);have HO4 := am (Kd.R_below HO.out hb4);clear hb4)
      | ((with_reducible refine gate_builtin (b := .append) (xs := #[.tmp 78,.tmp 80]) rfl ?_);at_builtin;refine Kd.R_append (Kd.int .i64) (w0 := w3) w3.heap.size rfl (.tmp 78) (.tmp 80) 31 3 (.int .i64 0) 8 rfl Try.underlying31 info3 rfl (by decide) (by omega) u15 (selR (keys7 LB) true i) (i : Int) [.int .i64 (i : Int)] (fun _ => True) (fun _ => False) rfl rfl ?aP (fun _ hk => hk.elim) ?aF ?aO ?aB ?aS ?aL ?_;(case aP => exact rfl);(case aB => exact HB4.out);(case aF => exact (fun _ _ => trivial));(case aO => exact HO4.out);(case aS => exact (below_size HB4.out));(case aL => omega);intro v8 w8 ho hb hg hat;have HO8 := am (by rw [HS.out] at ho;exact ho);have HB8 := am hb;clear ho hb hg hat))
     go_roundg (m.length - (i + 1))
     case measure => have := HK.out;omega
     case rel => exact ⟨i + 1,by go_num,⟨by omega⟩,HO8,HB8⟩
    ·have HS := am (show selR (keys7 LB) true i = selR (keys7 LB) true (i + 1) from by rw [selR_next,decide_eq_false hin];rfl)
     rw [decide_eq_false hin] at HW
     clear hin
     go_wp2_with (first
      | (go_at_call 42;(with_reducible refine HW.out.mono ?_);rintro e w4 ⟨rfl,hb4⟩;have HB4 := am (below_step HB.out hb4);have HO4 := am (Kd.R_below HO.out hb4);clear hb4))
     go_roundg (m.length - (i + 1))
     case measure => have := HK.out;omega
     case rel => exact ⟨i + 1,by go_num,⟨by omega⟩,⟨by rw [← HS.out];exact HO4.out⟩,HB4⟩
   ·have r1 : ((i : Int) < (m.length : Int)) = False := eq_false (by omega)
    have r2 : decide (i < m.length) = false := decide_eq_false hlt
    obtain ⟨rows,hrows⟩ : ∃ r,r = selR (keys7 LB) true i := ⟨_,rfl⟩
    have HRO := am (show rows = cpRows m outs from by rw [hrows,hrl0.out];congr 1;have := HK.out;omega)
    rw [← hrows] at HO
    obtain ⟨Ar,cr,er⟩ := Kd.R_slice HO.out
    subst er
    obtain ⟨w4,rfl⟩ : ∃ W : World,W = wr := ⟨_,rfl⟩
    have HRS := am (Kd.R_reads' HO.out)
    have HMM4 := am (show MaskAt w4 bma bpa LA ∧ MaskAt w4 bmb bpb LB from ⟨HMM.out.1.below HB.out,HMM.out.2.below HB.out⟩)
    have HB4 := am (below_step HB3.out HB.out)
    have hx4 := pw_cell_below HB4.out HX0.out
    clear hrows HK HO HB HMM hlt
    go_wp2
    go_loopg [16,87] n (fun kq v16 v87 w' => ∃ (i : Nat),v87 = .int .i64 (i : Int) ∧ Aside0 (kq + i = n) ∧ Aside0 (Kd.R (Kd.int .i64) 3 w' w4.heap.size (fun _ => True) v16 (selR (keys7 LA) false i)) ∧ Aside0 (Below w4.heap.size w4 w'))
    case atStart => exact ⟨0,rfl,⟨rfl⟩,⟨Kd.R_nil _ _ _ _ _⟩,⟨Below.refl _ _⟩⟩
    case round =>
     as_aux_lemma =>
      clear hx4 r1 r2
      obtain ⟨i,rfl,HK,HO,HB⟩ := hrel
      by_cases hlt : i < n
      ·
       have r1 : ((i : Int) < (n : Int)) = True := eq_true (by omega)
       have r2 : decide (i < n) = true := decide_eq_true hlt
       have HW := am (has_walk bma bpa LA wr (HMM4.out.1.below HB.out) i (by omega))
       have hsl := selR_len_le (keys7 LA) false i
       by_cases hin : (i : Int) ∈ keys7 LA
       ·have HS := am (show selR (keys7 LA) false i = selR (keys7 LA) false (i + 1) from by rw [selR_next,decide_eq_true hin];rfl)
        rw [decide_eq_true hin] at HW
        clear hin
        go_wp2_with (first
         | (go_at_call 42;(with_reducible refine HW.out.mono ?_);rintro e w5 ⟨rfl,hb5⟩;have HB5 := am (below_step HB.out hb5);have HO5 := am (Kd.R_below HO.out hb5);clear hb5))
        go_roundg (n - (i + 1))
        case measure => have := HK.out;omega
        case rel => exact ⟨i + 1,by go_num,⟨by omega⟩,⟨by rw [← HS.out];exact HO5.out⟩,HB5⟩
       ·have HS := am (show selR (keys7 LA) false i ++ [(i : Int)] = selR (keys7 LA) false (i + 1) from by rw [selR_next,decide_eq_false hin];rfl)
        rw [decide_eq_false hin] at HW
        clear hin
        go_wp2_with (first
         | (go_at_call 42;(with_reducible refine HW.out.mono ?_);rintro e w5 ⟨rfl,hb5⟩;have HB5 := am (below_step HB.out hb5);have HO5 := am (Kd.R_below HO.out hb5);clear hb5)
         | ((with_reducible refine gate_builtin (b := .append) (xs := #[.tmp 94,.tmp 96]) rfl ?_);at_builtin;refine Kd.R_append (Kd.int .i64) (w0 := w4) w4.heap.size rfl (.tmp 94) (.tmp 96) 31 3 (.int .i64 0) 8 rfl Try.underlying31 info3 rfl (by decide) (by omega) u16 (selR (keys7 LA) false i) (i : Int) [.int .i64 (i : Int)] (fun _ => True) (fun _ => False) rfl rfl ?aP (fun _ hk => hk.elim) ?aF ?aO ?aB ?aS ?aL ?_;(case aP => exact rfl);(case aB => exact HB5.out);(case aF => exact (fun _ _ => trivial));(case aO => exact HO5.out);(case aS => exact (below_size HB5.out));(case aL => omega);intro v8 w8 ho hb hg hat;have HO8 := am (by rw [HS.out] at ho;exact ho);have HB8 := am hb;clear ho hb hg hat))
        go_roundg (n - (i + 1))
        case measure => have := HK.out;omega
        case rel => exact ⟨i + 1,by go_num,⟨by omega⟩,HO8,HB8⟩
      ·have r1 : ((i : Int) < (n : Int)) = False := eq_false (by omega)
       have r2 : decide (i < n) = false := decide_eq_false hlt
       obtain ⟨cols,hcols⟩ : ∃ r,r = selR (keys7 LA) false i := ⟨_,rfl⟩
       have HCO := am (show cols = cpCols m ins from by rw [hcols,hcl0.out];congr 1;have := HK.out;omega)
       rw [← hcols] at HO
       obtain ⟨Ac,cc,ec⟩ := Kd.R_slice HO.out
       subst ec
       obtain ⟨w5,rfl⟩ : ∃ W : World,W = wr := ⟨_,rfl⟩
       have HCS := am (Kd.R_reads' HO.out)
       have HRS5 := am (Kd.C_below HRS.out.2.2 HB.out)
       have HMM5 := am (show MaskAt w5 bma bpa LA ∧ MaskAt w5 bmb bpb LB from ⟨HMM4.out.1.below HB.out,HMM4.out.2.below HB.out⟩)
       have HB5 := am (below_step HB4.out HB.out)
       have hx5 := pw_cell_below HB5.out HX0.out
       obtain ⟨bl,w6,hmk,hu6,hb6⟩ := mk_words n (by omega) w5
       have hbl := own_base hu6 bl rfl
       have hbl6 := own_lt hu6 bl rfl
       have HU6 := am hu6
       have HB6 := am hb6
       have HM6 := am (HMM5.out.1.below hb6)
       have hc6 : w6.cell? ⟨bma,64,none⟩ = some (.map (some bpa)) := (blk_cell HM6.out.1 64).trans (maskC_map LA bpa)
       have hrg := run_range_map (P := Try.prog) w6 72 3 22 bpa (ents7 LA) LA.length Try.underlying72 HM6.out.2
       clear hcols HK HO HB hlt hu6 hb6
       go_wp2
       obtain ⟨ri,hri⟩ : ∃ r,r = w6.heap.size := ⟨_,rfl⟩
       rw [← hri]
       have HRI := am (show bl < ri ∧ w5.heap.size ≤ ri from ⟨by omega,by have := below_size HB6.out;omega⟩)
       have HIT := am (show (w6.alloc (.mapIter (some bpa) LA.length #[] LA.length)).heap[ri]? = some (.mapIter (some bpa) LA.length #[] LA.length) from by rw [hri];exact blk_new w6 _)
       have HUA := am (show (w6.alloc (.mapIter (some bpa) LA.length #[] LA.length)).ownsRow w5.heap.size 22 1 (.slice (some ⟨bl,0,none⟩) n n) n (nums .u64 (allS LA #[] n)) from by rw [allS_none];exact own_below0 HU6.out (below_alloc (Below.refl _ _) _))
       have HBA := am (show Below w5.heap.size w5 (w6.alloc (.mapIter (some bpa) LA.length #[] LA.length)) from below_alloc HB6.out _)
       clear hrg hmk hc6 hri
       go_loopg [20] (leftOf (ents7 LA) #[]).size (fun kq v20 w' => ∃ (seen : Array Nat),Aside0 (kq = (leftOf (ents7 LA) seen).size) ∧ Aside0 (w'.heap[ri]? = some (.mapIter (some bpa) LA.length seen LA.length)) ∧ Aside0 (w'.ownsRow w5.heap.size 22 1 (.slice (some ⟨bl,0,none⟩) n n) n (nums .u64 (allS LA seen n))) ∧ Aside0 (Below w5.heap.size w5 w'))
       case atStart => exact ⟨#[],⟨rfl⟩,HIT,HUA,HBA⟩
       case round =>
        as_aux_lemma =>
         clear HIT HUA HBA
         obtain ⟨seen,HK,HI,HU,HB⟩ := hrel
         have HMP := am (HMM5.out.1.below HB.out).2
         have law := run_next_at (P := Try.prog) wr 0 ri bpa LA.length LA.length seen (ents7 LA) LA.length HI.out HMP.out (fun x hx => by obtain ⟨j,q,hj,rfl⟩ := ents7_at hx;exact (List.getElem?_eq_some_iff.1 hj).1) (Nat.le_refl _)
         rcases law with ⟨hl0,hrun⟩|⟨e,he,w7,hw7,hrun⟩
         ·have hnx : ∀ ty,(Instr.next (.pointer (some ⟨ri,0,none⟩)) false ty).run Try.prog wr = _ := fun _ => hrun
          have HSE := am (show allS LA seen n = cpAll0 m ins from by
           rw [HA0.out]
           unfold allS
           rw [seenL_all fun j hj => by
            obtain ⟨e,he,hb⟩ := ents7_all hj
            rw [← hb];exact all_seen _ _ hl0 e he])
          rw [HSE.out] at HU
          clear hl0 hrun HK HI
          obtain ⟨w7,rfl⟩ : ∃ W : World,W = wr := ⟨_,rfl⟩
          have HBW := am (below_step HB5.out HB.out)
          have HMM7 := am (HMM5.out.2.below HB.out)
          have hal0 := cpAll0_len m ins
          rw [← HN.out] at hal0
          have HAL := am hal0
          clear HMM5 HMP hx5 hal0
          obtain ⟨bz,hbz⟩ : ∃ b,decide (0 < rows.length) = b := ⟨_,rfl⟩
          go_upto_if 120 with fail
          have HBZ := am hbz
          clear hnx hbz
          go_cut [] (fun wc => ∃ al : List Int,Aside0 (al = if (cpRows m outs).length = 0 then cpAll0 m ins else cpAll1 p m ins outs) ∧ Aside0 ((cpRows m outs).length = 0 ∨ ¬ (cpRed p m ins outs).2.1.length < (cpRows m outs).length) ∧ Aside0 (wc.ownsRow w5.heap.size 22 1 (.slice (some ⟨bl,0,none⟩) n n) n (nums .u64 al)) ∧ Aside0 (Below w5.heap.size w5 wc))
          case first =>
           as_aux_lemma =>
            cases bz with
            | false =>
             have HZ := am (show rows.length = 0 from by have := of_decide_eq_false HBZ.out;omega)
             go_wp2_with fail
             go_meet
             exact ⟨cpAll0 m ins,⟨by rw [if_pos (by rw [← HRO.out];exact HZ.out)]⟩,⟨Or.inl (by rw [← HRO.out];exact HZ.out)⟩,HU,HB⟩
            | true =>
             have hz0 : 0 < rows.length := of_decide_eq_true HBZ.out
             obtain ⟨hpl,hpo,hps⟩ := cp_part HH.out HGO.out
             rw [← HRO.out,← HCO.out] at hpl hps
             rw [← HRO.out,← HCO.out] at hpo
             obtain ⟨hl1,hl2⟩ := cp_lens HH.out HGO.out
             rw [← HRO.out] at hl1
             rw [← HCO.out] at hl2
             have hr60 : rows.length ≤ 60 := by omega
             obtain ⟨ks,hks⟩ := (subm_ev m rows cols (by omega) (by omega)).rounds
             unfold subR at hks
             rw [if_pos hps] at hks
             have HKS := am hks
             obtain ⟨part,hpart⟩ : ∃ x,x = subM m rows cols := ⟨_,rfl⟩
             rw [← hpart] at hpl hpo HKS
             have HPL := am hpl
             have HPO := am (show RowsOk p part.length part from by rw [hpl];exact hpo)
             have HRED := am (show cpRed p m ins outs = red p (wideM part) part.length from by unfold cpRed;rw [← HRO.out,← HCO.out,← hpart,hpl])
             have HINV := am (show cpInv p m ins outs = (red p (wideM part) part.length).1.map (·.drop part.length) from by unfold cpInv;rw [HRED.out,← HRO.out,hpl])
             have HCM := am (Kd.C_below HR1.out HBW.out)
             have HCR := am (Kd.C_below HRS5.out HB.out)
             have HCC := am (Kd.C_below HCS.out.2.2 HB.out)
             have hp0 : 0 < part.length := by omega
             have hp60 : part.length ≤ 100 := by omega
             have hcr := HRS.out.2.1
             have hcc := HCS.out.2.1
             have hlc : cols.length = rows.length := by omega
             have HLC := am hlc
             clear hpl hpo hps hl1 hl2 hks hpart hlc
             by_cases hsg : (cpRed p m ins outs).2.1.length < (cpRows m outs).length
             ·have HSG := am (show (red p (wideM part) part.length).2.1.length < part.length from by rw [← HRED.out,HPL.out,HRO.out];exact hsg)
              have HER := am (show cpR p m ins outs = ([],[],8) from by
               unfold cpR
               rw [if_pos HGO.out,if_neg (by rw [← HRO.out];omega),if_pos hsg])
              clear hsg
              go_wp2_with (first
               | (go_at_call 18;(with_reducible refine (hyperinvertible_Submatrix.calls ks (some ad) c1 m Ar cr rows Ac cc cols part 0 _ HCM.out hc1 HCR.out hcr HCC.out hcc HKS.out).mono ?_);rintro e w8 ⟨v8,rfl,ho8,hb8⟩;obtain ⟨Ap,cp,ep⟩ := Kd.S_slice ho8;subst ep;have HPS := am (Kd.S_reads' ho8);have HB8 := am (below_step HBW.out hb8);clear ho8 hb8)
               | (go_at_call 43;(with_reducible refine (inverse_walk p HH.out.hp Ap cp part _ HPS.out.2.2 HPS.out.2.1 hp0 hp60 HPO.out).mono ?_);rintro e w9 ⟨hinv,hb9⟩;have HB9 := am (below_step HB8.out hb9);unfold InvR at hinv;rw [if_pos HSG.out] at hinv;subst hinv;clear hb9))
              first|go_ret|((try simp only [Exit.inBlock,Exit.then]);refine bodyPost_ret (results_tmp3 rfl _ _ _) rfl ?_)
              exact ⟨by rw [HER.out];exact cpRet_err rfl,HB9.out⟩
             ·have HSG := am (show ¬ (red p (wideM part) part.length).2.1.length < part.length from by rw [← HRED.out,HPL.out,HRO.out];exact hsg)
              have HNS := am hsg
              clear hsg
              go_wp2_with (first
               | (go_at_call 18;(with_reducible refine (hyperinvertible_Submatrix.calls ks (some ad) c1 m Ar cr rows Ac cc cols part 0 _ HCM.out hc1 HCR.out hcr HCC.out hcc HKS.out).mono ?_);rintro e w8 ⟨v8,rfl,ho8,hb8⟩;obtain ⟨Ap,cp,ep⟩ := Kd.S_slice ho8;subst ep;have HPS := am (Kd.S_reads' ho8);have HB8 := am hb8;clear ho8 hb8)
               | (go_at_call 43;(with_reducible refine (inverse_walk p HH.out.hp Ap cp part _ HPS.out.2.2 HPS.out.2.1 hp0 hp60 HPO.out).mono ?_);rintro e w9 ⟨hinv,hb9⟩;have HB9 := am hb9;unfold InvR at hinv;rw [if_neg HSG.out] at hinv;obtain ⟨Ai,ci,ei,hci,hCi⟩ := hinv;subst ei;have HCI := am hCi;clear hb9 hCi))
              have HB79 := am (show Below w7.heap.size w7 w9 from below_step HB8.out HB9.out)
              have HBL8 := am (show bl < w8.heap.size from by have := own_lt HU.out bl rfl;have := below_size HB8.out;omega)
              have HB59 := am (show Below w5.heap.size w5 w9 from below_step HB.out HB79.out)
              have HU9 := am (own_below0 HU.out HB79.out)
              have hll := cpLeft_len (p := p) (m := m) (ins := ins) (outs := outs)
              rw [← HRO.out] at hll
              have HLL := am hll
              clear hll HPS HU HB HCM HCR HCC HKS
              go_loopg [25,141] rows.length (fun kq v25 v141 w' => ∃ (i : Nat),v141 = .int .i64 (i : Int) ∧ Aside0 (kq + i = rows.length) ∧ Aside0 (Kd.R (Kd.int .u64) 22 w' w9.heap.size (fun _ => True) v25 ((cpLeft p m ins outs).take i)) ∧ Aside0 (Below w9.heap.size w9 w'))
              case atStart => exact ⟨0,rfl,⟨rfl⟩,⟨Kd.R_nil _ _ _ _ _⟩,⟨Below.refl _ _⟩⟩
              case round =>
               as_aux_lemma =>
                obtain ⟨i,rfl,HK,HO,HB⟩ := hrel
                by_cases hlt : i < rows.length
                ·
                 have s1 : ((i : Int) < (rows.length : Int)) = True := eq_true (by omega)
                 have s2 : decide (i < rows.length) = true := decide_eq_true hlt
                 have s3 : ((0 : Int) ≤ (i : Int)) = True := eq_true (by omega)
                 have HB5r := am (below_step HB59.out HB.out)
                 have HBwr := am (below_step HB5.out HB5r.out)
                 obtain ⟨ad2,ea2,hy2⟩ := Kd.at_int (Kd.C_below HRS5.out HB5r.out) (i : Int) (by omega) (by omega)
                 cases ea2
                 rw [Int.toNat_natCast] at hy2
                 have hxin : rd rows (i : Int) ∈ rows := rd_mem hlt
                 have hsel : rows = selR (keys7 LB) true m.length := HRO.out.trans hrl0.out
                 have hxr := selR_mem.1 (show rd rows (i : Int) ∈ selR (keys7 LB) true m.length from hsel ▸ hxin)
                 clear hsel
                 have HNXT := am (show (cpLeft p m ins outs).take i ++ [(val7 LB (rd rows (i : Int)) - dotP p (rd_L2 m (rd rows (i : Int))) (cpAll0 m ins) n) % p] = (cpLeft p m ins outs).take (i + 1) from by
                  have h9 := cpLeft_next (p := p) (m := m) (ins := ins) (outs := outs) (i := i) (by rw [← HRO.out];exact hlt)
                  rw [← HRO.out,← HLB.out,← HN.out] at h9
                  exact h9)
                 have hrow := HH.out.rows
                 obtain ⟨x,hxe⟩ : ∃ x : Nat,rd rows (i : Int) = (x : Int) := ⟨(rd rows (i : Int)).toNat,by omega⟩
                 rw [hxe] at hy2 hxr HNXT
                 have hxm : x < m.length := by omega
                 obtain ⟨ad7,A7,c7,e7,hy9,hc7,hC9⟩ := at_L2 (Kd.C_below HR1.out (below_step HB5.out HB59.out)) (x : Int) (by omega) (by omega)
                 cases e7
                 rw [Int.toNat_natCast] at hy9
                 have hy7 := pw_cell_below HB.out hy9
                 have hC7 := Kd.C_below hC9 HB.out
                 clear hC9
                 have hr7 : rd_L2 m (x : Int) ∈ m := by rw [rdM_nat,List.getD_eq_getElem?_getD,List.getElem?_eq_getElem hxm];exact List.getElem_mem hxm
                 have hrn := HRE.out _ hr7
                 have hrr := (hrow _ hr7).2
                 obtain ⟨r7,her7⟩ : ∃ r,r = rd_L2 m (x : Int) := ⟨_,rfl⟩
                 rw [← her7] at hy7 hy9 hc7 hC7 hrn hrr HNXT
                 rw [hrn] at hy7 hy9 hc7 hC7
                 have HY9 := am hy9
                 clear hy9
                 obtain ⟨kr,hkr⟩ := (row_ev HH.out.hp hrr (cpAll0_res HH.out HGO.out) (by rw [HAL.out];omega) (by omega)).rounds
                 rw [hrn] at hkr
                 have hvr : Res p (val7 LB (x : Int)) := by rw [HLB.out];exact val7_res HH.out.hp (by rw [← HLB.out];exact HNB.out) (fun y hy => (HH.out.po y hy).2) _
                 obtain ⟨y,hye⟩ : ∃ y,y = dotP p r7 (cpAll0 m ins) n := ⟨_,rfl⟩
                 have hyr : Res p y := by rw [hye];exact dotP_res HH.out.hp _ _ _
                 rw [← hye] at hkr HNXT
                 obtain ⟨kq2,hkq⟩ := (sub_ev HH.out.hp hvr hyr).rounds
                 obtain ⟨z,hze⟩ : ∃ z,z = (val7 LB (x : Int) - y) % p := ⟨_,rfl⟩
                 rw [← hze] at hkq HNXT
                 have HUr := am (own_below0 HU9.out HB.out)
                 have HRC := am (show ∀ W,Below wr.heap.size wr W → Calls Try.prog 45 #[.int .u64 p,.slice A7 n c7,.slice (some ⟨bl,0,none⟩) n n] W fun e w' => e = .returned (.int .u64 y) ∧ Drawn0 W w' from by
                  intro W hW
                  have hUR : Kd.R (Kd.int .u64) 22 W w5.heap.size (fun _ => True) (.slice (some ⟨bl,0,none⟩) n n) (cpAll0 m ins) := Kd.R_of_own (by rw [HAL.out];exact own_below0 HUr.out hW) (fun _ _ => trivial)
                  have h3 := (Kd.R_reads' hUR).2.2
                  have h4 := hyperinvertible_row.calls kr p A7 c7 r7 (some ⟨bl,0,none⟩) n (cpAll0 m ins) y W (by rw [hrn];exact Kd.C_below hC7 hW) (by rw [hrn];exact hc7) (by exact h3) (by rw [HAL.out];exact Nat.le_refl _) hkr
                  rw [hrn,HAL.out] at h4
                  exact h4)
                 have HKQ := am hkq
                 have HMr := am ((HMM7.out.below HB79.out).below HB.out)
                 have hcm : wr.cell? ⟨bmb,64,none⟩ = some (.map (some bpb)) := (blk_cell HMr.out.1 64).trans (maskC_map LB bpb)
                 have hmp : MpAt wr bpb LB := HMr.out.2
                 have hlook : ∀ W,MpAt W bpb LB → (Instr.lookup 72 (.map (some bpb)) (.int .i64 (x : Int)) false).run Try.prog W = .ok (.int .u64 (val7 LB (x : Int))) W := fun W hW => (mp_look Try.underlying72 Try.underlying3 (zeroW7 W) hW HNB.out (x : Int)).1
                 obtain ⟨vx,hvx⟩ : ∃ v,v = val7 LB (x : Int) := ⟨_,rfl⟩
                 rw [← hvx] at HKQ
                 rw [← hvx] at hlook
                 have t1 : ((0 : Int) ≤ (x : Int)) = True := eq_true (by omega)
                 have t2 : ((x : Int) < (m.length : Int)) = True := eq_true (by omega)
                 have t3 : decide (x < m.length) = true := decide_eq_true hxm
                 have HY7 := am hy7
                 have HCMr := am hcm
                 have hil2 : ((cpLeft p m ins outs).take i).length ≤ 60 := by rw [List.length_take];omega
                 clear hxin hxr hrow hxe hC7 hr7 hrn hrr her7 hkr hye hvr hyr hkq hze hvx
                 go_wp2
                 refine start_ (n := 19) (S := (fun w' => w'.cell? ⟨bmb,64,none⟩ = some (.map (some bpb)) ∧ MpAt w' bpb LB ∧ w'.cell? (ad.add x) = some (.slice A7 n c7))) (ds := []) (bz 19 0) (by kernel_rfl) rfl rfl ⟨hcm,hmp,hy7⟩ (fun hHeld => ?_)
                 refine pu 0 145 (bz 19 1) ?_
                 refine pu 1 146 (bz 19 3) ?_
                 refine pu 2 147 (bz 19 7) ?_
                 refine pu 3 148 (bz 19 15) ?_
                 refine pu 4 149 (bz 19 31) ?_
                 refine tu 5 150 (bz 19 63) hHeld ?_
                 refine pu 6 151 (bz 19 127) ?_
                 refine tu 7 152 (bz 19 255) hHeld ?_
                 refine pu 8 153 (bz 19 511) ?_
                 refine pu 9 154 (bz 19 1023) ?_
                 refine pu 10 155 (bz 19 2047) ?_
                 refine pu 11 156 (bz 19 4095) ?_
                 refine tu 12 157 (bz 19 8191) hHeld ?_
                 refine pu 13 158 (bz 19 16383) ?_
                 refine one_ (i := 14) (N := some 159) (bz 19 32767) rfl rfl (by kernel_rfl) (by decide) (fun K hK => ?_)
                 refine goes_ Try.func45 (by kernel_rfl) rfl #[.int .u64 p,.slice A7 n c7,.slice (some ⟨bl,0,none⟩) n n] (by rfl) rfl rfl (by (try simp only [List.map_toArray,List.map_cons,List.map_nil]);first|done|rfl) ?_
                 with_reducible refine (HRC.out _ (below_drew (Below.refl _ _))).mono ?_
                 rintro e w' ⟨rfl,⟨nd,rfl⟩⟩
                 refine ⟨_,rfl,?_⟩
                 refine hK.out _ _ ⟨hcm,hmp,hy7⟩ (fun hHeld => ?_)
                 clear hK K
                 refine nm 159 ?_
                 refine one_ (i := 15) (N := some 160) (bz 19 65535) rfl rfl (by kernel_rfl) (by decide) (fun K hK => ?_)
                 refine goes_ Try.func44 (by kernel_rfl) rfl #[.int .u64 p,.int .u64 vx,.int .u64 y] (by rfl) rfl rfl (by (try simp only [List.map_toArray,List.map_cons,List.map_nil]);first|done|rfl) ?_
                 with_reducible refine (field_Sub.calls kq2 p vx y z _ HKQ.out).mono ?_
                 rintro e w' ⟨rfl,⟨nd2,rfl⟩⟩
                 refine ⟨_,rfl,?_⟩
                 refine hK.out _ _ ⟨hcm,hmp,hy7⟩ (fun hHeld => ?_)
                 clear hK K
                 refine nm 160 ?_
                 refine one_ (i := 16) (N := some 161) (bz 19 131071) rfl rfl (by kernel_rfl) (by decide) (fun K hK => ?_)
                 refine value_ (v := .slice (some ⟨wr.heap.size,0,none⟩) 1 1) (w1 := (wr.drewN (1 + nd + nd2)).alloc (.cells #[.int .u64 z] 22)) (by rfl) rfl (by go_simp) ?_
                 refine hK.out _ _ ⟨cell_alloc_of hcm _,MpAt.alloc (w := wr.drewN (1 + nd + nd2)) hmp _,cell_alloc_of hy7 _⟩ (fun hHeld => ?_)
                 clear hK K
                 refine nm 161 ?_
                 refine one_ (i := 17) (N := some 162) (bz 19 262143) rfl rfl (by kernel_rfl) (by decide) (fun K hK => ?_)
                 refine Kd.R_append_step (Kd.int .u64) (w0 := w9) w9.heap.size (by rfl) (.tmp 145) (.tmp 161) 40 22 (.int .u64 0) 8 rfl Try.underlying40 info22 rfl (by decide) (by omega) u25 ((cpLeft p m ins outs).take i) z [.int .u64 z] (fun _ => True) (fun _ => False) rfl rfl ?aP (fun _ hk => hk.elim) ?aF ?aO ?aB ?aS ?aL ?_
                 (case aP => exact rfl)
                 (case aB => exact pw_below_drewN HB.out _)
                 (case aF => exact (fun _ _ => trivial))
                 (case aO => exact Kd.R_drewN HO.out _)
                 (case aS => exact below_size (pw_below_drewN HB.out _))
                 (case aL => omega)
                 intro v2 w10 ho hb hg hat
                 rw [HNXT.out] at ho
                 have hm10 := (HMM7.out.below HB79.out).below hb
                 refine hK.out _ _ ⟨(blk_cell hm10.1 64).trans (maskC_map LB bpb),hm10.2,pw_cell_below hb HY9.out⟩ (fun hHeld => ?_)
                 clear hK K
                 refine nm 162 ?_
                 refine pu 18 25 (bz 19 524287) ?_
                 refine done_ (by kernel_rfl) ?_
                 have HO2 := am ho
                 have HB2 := am hb
                 clear ho hb hg hat hm10
                 go_wp2
                 go_roundg (rows.length - (i + 1))
                 case measure => have := HK.out;omega
                 case rel => exact ⟨i + 1,by go_num,⟨by omega⟩,HO2,HB2⟩
                ·have s1 : ((i : Int) < (rows.length : Int)) = False := eq_false (by omega)
                 have s2 : decide (i < rows.length) = false := decide_eq_false hlt
                 have HLF := am (show (cpLeft p m ins outs).take i = cpLeft p m ins outs from List.take_of_length_le (by rw [HLL.out];omega))
                 rw [HLF.out] at HO
                 obtain ⟨left,hleft⟩ : ∃ x,x = cpLeft p m ins outs := ⟨_,rfl⟩
                 rw [← hleft] at HO HLL
                 obtain ⟨Al,cl,el⟩ := Kd.R_slice HO.out
                 rw [HLL.out] at el
                 subst el
                 obtain ⟨w10,rfl⟩ : ∃ W : World,W = wr := ⟨_,rfl⟩
                 have HB5x := am (below_step HB59.out HB.out)
                 have HBx := HB
                 have HUx := am (own_below0 HU9.out HB.out)
                 have HLV := am (cpVals_res (p := p) (m := m) (ins := ins) (outs := outs) HH.out)
                 have HIO := am (cpInv_ok HH.out HGO.out)
                 rw [← HINV.out] at HCI
                 obtain ⟨inv,hinv⟩ : ∃ x,x = cpInv p m ins outs := ⟨_,rfl⟩
                 rw [← hinv] at HCI HIO
                 have HIN := am (show cpVals p m ins outs = inv.map fun r => dotP p r (cpLeft p m ins outs) rows.length from by rw [hinv,HRO.out];rfl)
                 have HLR := am (show ∀ x ∈ left,Res p x from by rw [hleft];exact cpLeft_res HH.out)
                 rw [← hleft] at HIN
                 clear hinv hleft HK HLF
                 go_wp2
                 go_loopg [166] cols.length (fun kq v166 w' => ∃ (j : Nat),v166 = .int .i64 (j : Int) ∧ Aside0 (kq + j = cols.length) ∧ Aside0 (w'.ownsRow w5.heap.size 22 1 (.slice (some ⟨bl,0,none⟩) n n) n (nums .u64 (fillN cols (cpVals p m ins outs) (cpAll0 m ins) j))) ∧ Aside0 (∀ k,k < w10.heap.size → k ≠ bl → w'.heap[k]? = w10.heap[k]?) ∧ Aside0 (Below w5.heap.size w5 w'))
                 case atStart => exact ⟨0,rfl,⟨rfl⟩,HUx,⟨fun _ _ _ => rfl⟩,HB5x⟩
                 case round =>
                  as_aux_lemma =>
                   clear s1 s2
                   obtain ⟨j,rfl,HK,HU,HKP,HB⟩ := hrel
                   by_cases hlt : j < cols.length
                   ·
                    have s1 : ((j : Int) < (cols.length : Int)) = True := eq_true (by omega)
                    have s2 : decide (j < cols.length) = true := decide_eq_true hlt
                    have s3 : ((0 : Int) ≤ (j : Int)) = True := eq_true (by omega)
                    have hjr : j < rows.length := by rw [← HLC.out];exact hlt
                    obtain ⟨ad2,ea2,hy2⟩ := Kd.at_int (Kd.C_below HCS.out.2.2 HB.out) (j : Int) (by omega) (by omega)
                    cases ea2
                    rw [Int.toNat_natCast] at hy2
                    have hyin : rd cols (j : Int) ∈ cols := rd_mem hlt
                    have hsel : cols = selR (keys7 LA) false n := HCO.out.trans hcl0.out
                    have hyr := selR_mem.1 (show rd cols (j : Int) ∈ selR (keys7 LA) false n from hsel ▸ hyin)
                    clear hsel
                    have HNX := am (show (fillN cols (cpVals p m ins outs) (cpAll0 m ins) j).set (rd cols (j : Int)).toNat ((cpVals p m ins outs).getD j 0) = fillN cols (cpVals p m ins outs) (cpAll0 m ins) (j + 1) from rfl)
                    obtain ⟨y,hye⟩ : ∃ y : Nat,rd cols (j : Int) = (y : Int) := ⟨(rd cols (j : Int)).toNat,by omega⟩
                    rw [hye] at hy2 hyr HNX
                    rw [Int.toNat_natCast] at HNX
                    have hbl8 := HBL8.out
                    have hs89 := below_size HB9.out
                    have hCI := HCI.out wr (fun k h1 h2 => by
                     have h3 := below_size HBx.out
                     rw [HKP.out k (by omega) (by omega)]
                     exact HBx.out.block k h2)
                    obtain ⟨ad8,A8,c8,e8,hy8,hc8,hC8⟩ := at_L2 hCI (j : Int) (by omega) (by rw [HPL.out];omega)
                    cases e8
                    rw [Int.toNat_natCast] at hy8
                    have hjv : j < inv.length := by rw [HIO.out.1,← HRO.out];exact hjr
                    have hr8 : rd_L2 inv (j : Int) ∈ inv := by rw [rdM_nat,List.getD_eq_getElem?_getD,List.getElem?_eq_getElem hjv];exact List.getElem_mem hjv
                    obtain ⟨hrn,hrr⟩ := HIO.out.2 _ hr8
                    rw [← HRO.out] at hrn
                    have hvz : (cpVals p m ins outs).getD j 0 = dotP p (rd_L2 inv (j : Int)) left rows.length := by
                     rw [HIN.out,List.getD_eq_getElem?_getD,List.getElem?_map,List.getElem?_eq_getElem hjv,rdM_nat,List.getD_eq_getElem?_getD,List.getElem?_eq_getElem hjv];rfl
                    rw [hvz] at HNX
                    obtain ⟨r8,her8⟩ : ∃ r,r = rd_L2 inv (j : Int) := ⟨_,rfl⟩
                    rw [← her8] at hy8 hc8 hC8 hrn hrr HNX
                    obtain ⟨kr,hkr⟩ := (row_ev HH.out.hp hrr HLR.out (by rw [HLL.out];omega) (by omega)).rounds
                    rw [hrn] at hkr
                    obtain ⟨z,hze⟩ : ∃ z,z = dotP p r8 left rows.length := ⟨_,rfl⟩
                    rw [← hze] at hkr HNX
                    have hol : wr.ownsRow w9.heap.size 22 1 (.slice Al rows.length cl) left.length (nums .u64 left) := own_move (Kd.own_of_R HO.out) fun k hk => HKP.out k (own_lt (Kd.own_of_R HO.out) k hk) (by have := own_base (Kd.own_of_R HO.out) k hk;omega)
                    have hlR : Kd.R (Kd.int .u64) 22 wr w9.heap.size (fun _ => True) (.slice Al rows.length cl) left := Kd.R_of_own hol (fun _ _ => trivial)
                    have HRC := am (show Calls Try.prog 45 #[.int .u64 p,.slice A8 rows.length c8,.slice Al rows.length cl] wr fun e w' => e = .returned (.int .u64 z) ∧ Drawn0 wr w' from by
                     have h3 := Kd.R_reads' hlR
                     have h4 := hyperinvertible_row.calls kr p A8 c8 r8 Al cl left z wr hC8 hc8 h3.2.2 (by rw [HLL.out];exact h3.2.1) hkr
                     rw [hrn,HLL.out] at h4
                     exact h4)
                    rw [hrn] at hy8
                    have hyn : y < n := by omega
                    have hcl2 : wr.cell? ⟨bl,y,none⟩ = some (.int .u64 ((fillN cols (cpVals p m ins outs) (cpAll0 m ins) j)[y]'(by rw [fillN_len,HAL.out];exact hyn))) := own_cell0 (r := fillN cols (cpVals p m ins outs) (cpAll0 m ins) j) (by rw [fillN_len,HAL.out];exact HU.out) _
                    have hfl2 : wr.frozen? ⟨bl,y,none⟩ = false := by
                     obtain ⟨cs,hcs⟩ := own_typed2 (g := bl) HU.out rfl
                     exact blk_frozen hcs y
                    have k1 : ((0 : Int) ≤ (y : Int)) = True := eq_true (by omega)
                    have k2 : ((y : Int) < (n : Int)) = True := eq_true (by omega)
                    have k3 : decide (y < n) = true := decide_eq_true hyn
                    have k4 : ((j : Int) < (part.length : Int)) = True := eq_true (by rw [HPL.out];omega)
                    have k5 : decide (j < part.length) = true := decide_eq_true (by rw [HPL.out];omega)
                    clear hyin hyr hye hCI hC8 hjv hr8 hrn hrr hvz her8 hkr hze hol hlR
                    go_wp2_with (first
                     | (go_at_call 45;(with_reducible refine HRC.out.mono ?_);rintro e w' ⟨rfl,⟨nd,rfl⟩⟩))
                    go_roundg (cols.length - (j + 1))
                    case measure => have := HK.out;omega
                    case rel =>
                     refine ⟨j + 1,by go_num,⟨by omega⟩,⟨?_⟩,⟨fun k h1 h2 => ?_⟩,⟨?_⟩⟩
                     ·rw [← HNX.out,show nums .u64 ((fillN cols (cpVals p m ins outs) (cpAll0 m ins) j).set y z) = (nums .u64 (fillN cols (cpVals p m ins outs) (cpAll0 m ins) j)).set y (.int .u64 z) from by simp [nums,List.map_set]]
                      exact ((own_below0 HU.out (pw_below_drewN (Below.refl _ _) nd)).stored y _).1
                     ·exact (Below.heap_setCell (wr.drewN nd) ⟨bl,y,none⟩ _ k h2).trans (HKP.out k h1 h2)
                     ·exact (pw_below_drewN HB.out nd).setCell (p := ⟨bl,y,none⟩) hbl _
                   ·have s1 : ((j : Int) < (cols.length : Int)) = False := eq_false (by omega)
                    have s2 : decide (j < cols.length) = false := decide_eq_false hlt
                    have HJ := am (show j = (cpRows m outs).length from by rw [← HRO.out,← HLC.out];have := HK.out;omega)
                    go_wp2_with fail
                    go_meet
                    refine ⟨cpAll1 p m ins outs,⟨by rw [if_neg (by rw [← HRO.out];omega)]⟩,⟨Or.inr HNS.out⟩,⟨?_⟩,HB⟩
                    unfold cpAll1
                    rw [← HJ.out,← HCO.out]
                    exact HU.out
          case rest =>
           as_aux_lemma =>
            obtain ⟨al,HA,HOR,HU,HB⟩ := hcut
            have HCR := am (show cpR p m ins outs = (al,cpOut p m al,0) from by
             unfold cpR
             rw [if_pos HGO.out,HA.out]
             by_cases h1 : (cpRows m outs).length = 0
             ·rw [if_pos h1,if_pos h1]
             ·rw [if_neg h1,if_neg (HOR.out.resolve_left h1),if_neg h1])
            have HALR := am (show (∀ x ∈ al,Res p x) ∧ al.length = n from by
             rw [HA.out]
             split
             ·exact ⟨cpAll0_res HH.out HGO.out,HAL.out⟩
             ·unfold cpAll1
              exact ⟨fillN_res HH.out.hp (cpVals_res HH.out) (cpAll0_res HH.out HGO.out) _,by rw [fillN_len];exact HAL.out⟩)
            have HOUT := am (show cpOut p m al = m.map fun r => dotP p r al n from by unfold cpOut;rw [HN.out])
            have HBw := am (below_step HB5.out HB.out)
            obtain ⟨w11,rfl⟩ : ∃ W : World,W = wc := ⟨_,rfl⟩
            go_wp2
            go_loopg [30,184] m.length (fun kq v30 v184 w' => ∃ (i : Nat),v184 = .int .i64 (i : Int) ∧ Aside0 (kq + i = m.length) ∧ Aside0 (Kd.R (Kd.int .u64) 22 w' w11.heap.size (fun _ => True) v30 ((cpOut p m al).take i)) ∧ Aside0 (Below w11.heap.size w11 w'))
            case atStart => exact ⟨0,rfl,⟨rfl⟩,⟨Kd.R_nil _ _ _ _ _⟩,⟨Below.refl _ _⟩⟩
            case round =>
             as_aux_lemma =>
              obtain ⟨i,rfl,HK,HO,HBi⟩ := hrel
              by_cases hlt : i < m.length
              ·
               have s1 : ((i : Int) < (m.length : Int)) = True := eq_true (by omega)
               have s2 : decide (i < m.length) = true := decide_eq_true hlt
               have s3 : ((0 : Int) ≤ (i : Int)) = True := eq_true (by omega)
               obtain ⟨ad7,A7,c7,e7,hy7,hc7,hC7⟩ := at_L2 (Kd.C_below HR1.out (below_step HBw.out HBi.out)) (i : Int) (by omega) (by omega)
               cases e7
               rw [Int.toNat_natCast] at hy7
               have hr7 : rd_L2 m (i : Int) ∈ m := by rw [rdM_nat,List.getD_eq_getElem?_getD,List.getElem?_eq_getElem hlt];exact List.getElem_mem hlt
               have hrn := HRE.out _ hr7
               have hrr := (HH.out.rows _ hr7).2
               have HNX := am (show (cpOut p m al).take i ++ [dotP p (rd_L2 m (i : Int)) al n] = (cpOut p m al).take (i + 1) from by
                rw [HOUT.out,← List.map_take,← List.map_take,List.take_succ_eq_append_getElem hlt,List.map_append,rdM_nat,List.getD_eq_getElem?_getD,List.getElem?_eq_getElem hlt];rfl)
               obtain ⟨r7,her7⟩ : ∃ r,r = rd_L2 m (i : Int) := ⟨_,rfl⟩
               rw [← her7] at hy7 hc7 hC7 hrn hrr HNX
               obtain ⟨kr,hkr⟩ := (row_ev HH.out.hp hrr HALR.out.1 (by rw [HALR.out.2];omega) (by omega)).rounds
               rw [hrn] at hkr
               obtain ⟨z,hze⟩ : ∃ z,z = dotP p r7 al n := ⟨_,rfl⟩
               rw [← hze] at hkr HNX
               have HRC := am (show Calls Try.prog 45 #[.int .u64 p,.slice A7 n c7,.slice (some ⟨bl,0,none⟩) n n] wr fun e w' => e = .returned (.int .u64 z) ∧ Drawn0 wr w' from by
                have hUR : Kd.R (Kd.int .u64) 22 wr w5.heap.size (fun _ => True) (.slice (some ⟨bl,0,none⟩) n n) al := Kd.R_of_own (by rw [HALR.out.2];exact own_below0 HU.out HBi.out) (fun _ _ => trivial)
                have h3 := (Kd.R_reads' hUR).2.2
                have h4 := hyperinvertible_row.calls kr p A7 c7 r7 (some ⟨bl,0,none⟩) n al z wr hC7 hc7 h3 (by rw [HALR.out.2];exact Nat.le_refl _) hkr
                rw [hrn,HALR.out.2] at h4
                exact h4)
               rw [hrn] at hy7
               have hil2 : ((cpOut p m al).take i).length ≤ 60 := by rw [List.length_take];omega
               clear hC7 hr7 hrn hrr her7 hkr hze
               go_wp2_with (first
                | (go_at_call 45;(with_reducible refine HRC.out.mono ?_);rintro e w' ⟨rfl,⟨nd,rfl⟩⟩)
                | ((with_reducible refine gate_builtin (b := .append) (xs := #[.tmp 188,.tmp 193]) rfl ?_);at_builtin;refine Kd.R_append (Kd.int .u64) (w0 := w11) w11.heap.size rfl (.tmp 188) (.tmp 193) 40 22 (.int .u64 0) 8 rfl Try.underlying40 info22 rfl (by decide) (by omega) u30 ((cpOut p m al).take i) z [.int .u64 z] (fun _ => True) (fun _ => False) rfl rfl ?aP (fun _ hk => hk.elim) ?aF ?aO ?aB ?aS ?aL ?_;(case aP => exact rfl);(case aB => exact (pw_below_drewN HBi.out _));(case aF => exact (fun _ _ => trivial));(case aO => exact Kd.R_drewN HO.out _);(case aS => exact (below_size (pw_below_drewN HBi.out _)));(case aL => omega);intro v8 w8 ho hb hg hat;have HO8 := am (by rw [HNX.out] at ho;exact ho);have HB8 := am hb;clear ho hb hg hat))
               go_roundg (m.length - (i + 1))
               case measure => have := HK.out;omega
               case rel => exact ⟨i + 1,by go_num,⟨by omega⟩,HO8,HB8⟩
              ·have s1 : ((i : Int) < (m.length : Int)) = False := eq_false (by omega)
               have s2 : decide (i < m.length) = false := decide_eq_false hlt
               have HLF := am (show (cpOut p m al).take i = cpOut p m al from List.take_of_length_le (by rw [HOUT.out,List.length_map];omega))
               rw [HLF.out] at HO
               clear HLF HK
               go_wp2
               first|go_ret|((try simp only [Exit.inBlock,Exit.then]);refine bodyPost_ret (results_tmp3 rfl _ _ _) rfl ?_)
               have hbwi := below_step HBw.out HBi.out
               refine ⟨?_,hbwi⟩
               rw [HCR.out]
               refine ⟨.slice (some ⟨bl,0,none⟩) n n,u30,rfl,?_,Kd.R_lower HO.out (below_size HBw.out)⟩
               exact Kd.R_of_own (by
                show wr.ownsRow _ _ _ _ al.length _
                rw [HALR.out.2];exact own_weaken (own_below0 HU.out HBi.out) (below_size HB5.out)) (fun _ _ => trivial)
         ·
          obtain ⟨j,⟨qk,qy⟩,hj,rfl⟩ := ents7_at (mem_left he).1
          have hkin : qk ∈ keys7 LA := List.mem_map.2 ⟨(qk,qy),List.mem_of_getElem? hj,rfl⟩
          obtain ⟨hk0,hkn⟩ := HKI.out qk hkin
          obtain ⟨k,rfl⟩ : ∃ k : Nat,qk = (k : Int) := ⟨qk.toNat,by omega⟩
          have HSH := am (left_shrinks _ _ _ he)
          have hnx : ∀ ty,(Instr.next (.pointer (some ⟨ri,0,none⟩)) false ty).run Try.prog wr = _ := fun _ => hrun
          have hw7b : w7.heap = wr.heap := by rcases hw7 with rfl|rfl <;> rfl
          have hB7 : Below w5.heap.size w5 w7 := by
           rcases hw7 with rfl|rfl
           ·exact HB.out
           ·exact below_drew HB.out
          have hri7 : ri < w7.heap.size := by rw [hw7b];exact blk_lt HI.out
          obtain ⟨w8,hw8⟩ : ∃ W,W = Go.ChangeMaps.setBlock w7 ri (.mapIter (some bpa) LA.length (seen.push j) LA.length) := ⟨_,rfl⟩
          have HI8 := am (show w8.heap[ri]? = some (.mapIter (some bpa) LA.length (seen.push j) LA.length) from by rw [hw8];exact sb_same hri7)
          have HB8 := am (show Below w5.heap.size w5 w8 from by rw [hw8];exact sb_below hB7 HRI.out.2)
          have hu8 : w8.ownsRow w5.heap.size 22 1 (.slice (some ⟨bl,0,none⟩) n n) n (nums .u64 (allS LA seen n)) := own_move HU.out fun k hk => by
           rw [hw8]
           refine (sb_other ?_).trans (by rw [hw7b])
           have : bl = k := Option.some.inj hk
           have := HRI.out.1
           omega
          have hen := run_entry_at (P := Try.prog) w8 ri bpa LA.length seen (ents7 LA) LA.length ⟨.int .i64 (k : Int),.int .u64 qy,j⟩ HI8.out ((HMM5.out.1.below HB8.out).2) (mem_left he).1 (by rw [ents7_born];exact List.nodup_range)
          have hcl : w8.cell? ⟨bl,k,none⟩ = some (.int .u64 ((allS LA seen n)[k]'(by rw [allS_len];omega))) := own_cell0 (r := allS LA seen n) (by rw [allS_len];exact hu8) _
          have hfl : w8.frozen? ⟨bl,k,none⟩ = false := by
           obtain ⟨cs,hcs⟩ := own_typed2 (g := bl) hu8 rfl
           exact blk_frozen hcs k
          have HNX := am (show (allS LA seen n).set k qy = allS LA (seen.push j) n from by
           have := allS_push (n := n) HNA.out (seen := seen) hj hk0 hkn
           rwa [Int.toNat_natCast] at this)
          have HU9 := am (show (w8.setCell ⟨bl,k,none⟩ (.int .u64 qy)).ownsRow w5.heap.size 22 1 (.slice (some ⟨bl,0,none⟩) n n) n (nums .u64 (allS LA (seen.push j) n)) from by
           rw [← HNX.out,show nums .u64 ((allS LA seen n).set k qy) = (nums .u64 (allS LA seen n)).set k (.int .u64 qy) from by simp [nums,List.map_set]]
           exact (hu8.stored k _).1)
          have HB9 := am (show Below w5.heap.size w5 (w8.setCell ⟨bl,k,none⟩ (.int .u64 qy)) from HB8.out.setCell (p := ⟨bl,k,none⟩) hbl _)
          have HI9 := am (show (w8.setCell ⟨bl,k,none⟩ (.int .u64 qy)).heap[ri]? = some (.mapIter (some bpa) LA.length (seen.push j) LA.length) from (Below.heap_setCell w8 ⟨bl,k,none⟩ _ ri (by have := HRI.out.1;show ri ≠ bl;omega)).trans HI8.out)
          have k1 : ((0 : Int) ≤ (k : Int)) = True := eq_true (by omega)
          have k2 : ((k : Int) < (n : Int)) = True := eq_true (by omega)
          have k3 : decide (k < n) = true := decide_eq_true (by omega)
          rw [← hw8] at hnx
          clear he hj hrun hw7 hw7b hB7 hri7 hw8 hu8 hkin
          go_wp2
          go_roundg (leftOf (ents7 LA) (seen.push j)).size
          case measure => have := HK.out;have := HSH.out;omega
          case rel => exact ⟨seen.push j,⟨rfl⟩,HI9,HU9,HB9⟩
end Go.Proofs.Ytmdoaijkaaaglaa.Hw
end
