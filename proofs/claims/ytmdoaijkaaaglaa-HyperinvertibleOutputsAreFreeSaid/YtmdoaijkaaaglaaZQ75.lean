/- Part 5 of the proof's texts, joined in build order. -/
import Derived.Test.YtmdoaijkaaaglaaZQ74
set_option linter.unusedVariables false
set_option linter.unusedSimpArgs false
section
namespace Go.Proofs.Ytmdoaijkaaaglaa.Srt
open Go.RowKit Go.Proofs.Ytmdoaijkaaaglaa.Pr Go.Proofs.Ytmdoaijkaaaglaa.Hw Go.Proofs.YtmdoaijkaaaglaaW.PrintWords Go.Proofs.YtmdoaijkaaaglaaW.PrintLast Go.Proofs.YtmdoaijkaaaglaaW.PrintMore Go.Sort
def Own (w : World) (base g q len : Nat) (l : List Int) : Prop := l.length = len ∧ w.ownsRow base 22 1 (.slice (some ⟨g,0,none⟩) len q) len (nums .u64 l)
theorem Own.R {w : World} {base g q len : Nat} {l : List Int} (h : Own w base g q len l) : Kd.R (Kd.int .u64) 22 w base (fun _ => True) (.slice (some ⟨g,0,none⟩) len q) l := by
 obtain ⟨h1,h2⟩ := h
 subst h1
 exact R_made h2 (fun _ _ => trivial)
theorem Own.of {w : World} {base g q len : Nat} {l : List Int} {ok : Nat → Prop} (h : Kd.R (Kd.int .u64) 22 w base ok (.slice (some ⟨g,0,none⟩) len q) l) : Own w base g q len l := by
 have h1 := (Kd.R_reads' h).1
 subst h1
 exact ⟨rfl,Kd.own_of_R h⟩
theorem Own.of_own {w : World} {base g q len : Nat} {l : List Int} (h : w.ownsRow base 22 1 (.slice (some ⟨g,0,none⟩) len q) len (nums .u64 l)) : Own w base g q len l := by
 refine ⟨?_,h⟩
 have := h.1
 simpa [nums] using this
def PdqOk (g q len : Nat) (w0 : World) (n : Nat) : Prop := ∀ (l : List Int) (a b limit : Nat) (w : World),b - a ≤ n → a ≤ b → b ≤ len → limit ≤ 62 → Own w w0.heap.size g q len l → RowKit.Below w0.heap.size w0 w →
 Calls Try.prog 102 #[.slice (some ⟨g,0,none⟩) len q,.int .i64 (a : Int),.int .i64 (b : Int),.int .i64 (limit : Int)] w fun e w' =>
  e = .returned (.tuple #[]) ∧ Aside0 (Own w' w0.heap.size g q len (pdq ltInt l.toArray a b limit true true).toList) ∧ Aside0 (RowKit.Below w0.heap.size w0 w')
set_option maxHeartbeats 4000000 in
set_option maxRecDepth 100000 in
theorem pdq_walk (g q len : Nat) (w0 : World) (hlen : len < 50) (n : Nat) (ih : ∀ m,m < n → PdqOk g q len w0 m) : PdqOk g q len w0 n := by
 intro l a b limit w hn hab hb hlim ho hB
 have HIH := Aside0.mk ih
 have HO0 := Aside0.mk ho
 have HB0 := Aside0.mk hB
 obtain ⟨T,hT⟩ : ∃ T,T = pdq ltInt l.toArray a b limit true true := ⟨_,rfl⟩
 rw [← hT]
 have HT := Aside0.mk hT
 clear ho hB ih hT
 go_enter Try.func102,Try.ntmps102
 go_wp2
 go_loopg [1,2,3,8,9,10,11,12,13,14,15,16,17,18] n (fun kq v1 v2 v3 v8 v9 v10 v11 v12 v13 v14 v15 v16 v17 v18 w' => ∃ (a b limit : Nat) (wb wp : Bool) (l : List Int),v1 = .int .i64 (a : Int) ∧ v2 = .int .i64 (b : Int) ∧ v3 = .int .i64 (limit : Int) ∧ v8 = .bool wb ∧ v9 = .bool wp ∧
  Aside0 (b - a ≤ kq ∧ kq ≤ n ∧ a ≤ b ∧ b ≤ len ∧ limit ≤ 62) ∧ Aside0 (T = pdq ltInt l.toArray a b limit wb wp) ∧ Aside0 (Own w' w0.heap.size g q len l) ∧ Aside0 (RowKit.Below w0.heap.size w0 w'))
 case atStart => exact ⟨a,b,limit,true,true,l,rfl,rfl,rfl,rfl,rfl,⟨hn,Nat.le_refl _,hab,hb,hlim⟩,HT,HO0,HB0⟩
 case round =>
  clear HT HO0 HB0 hn hab hb hlim
  obtain ⟨a,b,limit,wb,wp,l,rfl,rfl,rfl,rfl,rfl,HK,HT,HO,HB⟩ := hrel
  obtain ⟨hk1,hk2,hab,hb,hlim⟩ := HK.out
  have hll := HO.out.1
  by_cases h12 : b - a ≤ 12
  ·have q1 : decide ((b : Int) - (a : Int) ≤ 12) = true := decide_eq_true (by omega)
   have hp : pdq ltInt l.toArray a b limit wb wp = insertionSort ltInt l.toArray a b := by rw [pdq,if_pos h12]
   obtain ⟨k,hk⟩ := (ins_ev a b l hab (by omega) (by omega)).rounds
   have HC := Aside0.mk (slices_insertionSortOrdered_uint64.calls k (fun _ => True) _ l (a : Int) (b : Int) _ w0 wr HB.out HO.out.R hk)
   rw [← hp,← HT.out] at HC
   clear HO HB HT hk hp
   go_wp2_with (first|(go_at_call 105;(with_reducible refine HC.out.mono ?_);rintro e w' ⟨rfl,h1,h2,h3⟩;have H1 := Aside0.mk (Own.of h1);have H2 := Aside0.mk h2;clear h1 h2 h3))
   first|go_end0|((try simp only [Exit.inBlock,Exit.then]);refine bodyPost_ret (results_none rfl _ _ _) rfl ?_)
   exact ⟨rfl,H1,H2⟩
  ·by_cases h0 : limit = 0
   ·subst h0
    have q1 : decide ((b : Int) - (a : Int) ≤ 12) = false := decide_eq_false (by omega)
    have hp : pdq ltInt l.toArray a b 0 wb wp = heapSort ltInt l.toArray a b := by rw [pdq,if_neg h12,if_pos rfl]
    obtain ⟨k,hk⟩ := (heap_ev a b l (by omega) (by omega) (by omega)).rounds
    have HC := Aside0.mk (slices_heapSortOrdered_uint64.calls k (fun _ => True) _ l (a : Int) (b : Int) _ w0 wr HB.out HO.out.R hk)
    rw [← hp,← HT.out] at HC
    clear HO HB HT hk hp
    go_wp2_with (first|(go_at_call 106;(with_reducible refine HC.out.mono ?_);rintro e w' ⟨rfl,h1,h2,h3⟩;have H1 := Aside0.mk (Own.of h1);have H2 := Aside0.mk h2;clear h1 h2 h3))
    first|go_end0|((try simp only [Exit.inBlock,Exit.then]);refine bodyPost_ret (results_none rfl _ _ _) rfl ?_)
    exact ⟨rfl,H1,H2⟩
   ·have q1 : decide ((b : Int) - (a : Int) ≤ 12) = false := decide_eq_false (by omega)
    have q2 : ((limit : Int) == 0) = false := beq_eq_false_iff_ne.mpr (by omega)
    have hL : a + (b - a) = b := by omega
    go_upto_if 35 with (fail)
    go_cut [3] (fun v3 wc => ∃ (lim : Nat) (l1 : List Int),v3 = .int .i64 (lim : Int) ∧ Aside0 (lim = (if wb = true then limit else limit - 1) ∧ l1.toArray = (if wb = true then l.toArray else breakPatterns l.toArray a b)) ∧ Aside0 (Own wc w0.heap.size g q len l1) ∧ Aside0 (RowKit.Below w0.heap.size w0 wc))
    case first =>
     cases wb with
     | true =>
      go_wp2
      go_meet
      case rel => exact ⟨limit,l,rfl,⟨rfl,rfl⟩,HO,HB⟩
     | false =>
      have hbw := break_walk l g q a (b - a) w0 wr HB.out (by rw [hll];exact HO.out.2) (by omega) (by omega) (by omega) (by omega)
      rw [hll,hL] at hbw
      have HBW := Aside0.mk hbw
      have hw : IntKind.i64.wrap ((limit : Int) - 1) = ((limit - 1 : Nat) : Int) := by rw [wrapI_id (by omega) (by omega)];omega
      clear hbw HO HB
      go_wp2_with fail
      refine HBW.out.mono ?_
      rintro e w2 ⟨rfl,H1,H2⟩
      have H1' := Aside0.mk (Own.of_own H1.out)
      go_wp2_with fail
      go_meet
      case rel => exact ⟨limit - 1,_,by first|rfl|(congr 1;omega),⟨rfl,rfl⟩,H1',H2⟩
    case rest =>
     clear HO HB
     obtain ⟨lim,l1,rfl,HL,HO,HB⟩ := hcut
     have hl1 := HO.out.1
     have hlim2 : lim ≤ 62 := by rw [HL.out.1];split <;> omega
     have hstep := pdq_step l.toArray a b limit wb wp (by omega) (by omega) h0 l1.toArray HL.out.2 (by rw [List.size_toArray];omega) lim HL.out.1
     rw [← HT.out] at hstep
     have hch := choose_hint l1.toArray a b (by omega) (by omega)
     have hpv := choosePivot_holds ltInt l1.toArray a b (by omega)
     have hpw := pivot_walk w0.heap.size l1 g q a b wc (by rw [hl1];exact HO.out.2) (by omega) (by omega) (by omega) (by omega)
     rw [hl1] at hpw
     obtain ⟨c,hc⟩ : ∃ c,c = choosePivot ltInt l1.toArray a b := ⟨_,rfl⟩
     rw [← hc] at hstep hch hpv hpw
     clear hc
     obtain ⟨pv,h⟩ := c
     dsimp only at hstep hch hpv hpw
     obtain ⟨hv,hhv⟩ : ∃ x,x = hintN h := ⟨_,rfl⟩
     have q3 : (hv == 2) = false := by rw [hhv];cases h <;> first|rfl|exact absurd rfl hch
     have q4 : decide (h = .increasing) = (hv == 1) := by rw [hhv];cases h <;> first|rfl|exact absurd rfl hch
     rw [q4] at hstep
     rw [← hhv] at hpw
     have HS := Aside0.mk hstep
     have HPW := Aside0.mk hpw
     clear hstep hpw hch hhv q4 HT HL
     obtain ⟨hpv1,hpv2⟩ := hpv
     go_upto_region 15 with (first|(go_at_call 108;(with_reducible refine HPW.out.mono ?_);rintro e w2 ⟨rfl,B2⟩;have HO2 := Aside0.mk (show Own w2 w0.heap.size g q len l1 from ⟨HO.out.1,pw_own_below HO.out.2 B2.out⟩);have HB2 := Aside0.mk (below_step HB.out B2.out);clear B2))
     clear HO HB HPW
     go_cut [68] (fun v68 wd => v68 = .bool (wb && wp && (hv == 1)) ∧ Aside0 (Own wd w0.heap.size g q len l1) ∧ Aside0 (RowKit.Below w0.heap.size w0 wd))
     case first =>
      cases wb <;> cases wp
      all_goals (
       go_wp2
       go_meet
       case rel => exact ⟨by first|rfl|simp,HO2,HB2⟩)
     case rest =>
      clear HO2 HB2
      obtain ⟨rfl,HO,HB⟩ := hcut
      obtain ⟨t,ht⟩ : ∃ t,t = (wb && wp && (hv == 1)) := ⟨_,rfl⟩
      have hst := HS.out
      rw [← ht] at hst ⊢
      have HS2 := Aside0.mk hst
      clear hst ht HS q3
      go_upto_if 68 with (fail)
      go_cut [] (fun wd => Aside0 (T = pdqB l1.toArray a b lim wb wp pv) ∧ Aside0 (Own wd w0.heap.size g q len l1) ∧ Aside0 (RowKit.Below w0.heap.size w0 wd))
      case first =>
       cases t with
       | false =>
        have HT2 := Aside0.mk (show T = pdqB l1.toArray a b lim wb wp pv by have := HS2.out;rwa [Bool.false_and,if_neg (by decide)] at this)
        go_wp2
        go_meet
        case rel => exact ⟨HT2,HO,HB⟩
       | true =>
        obtain ⟨k,hk⟩ := (pins_ev a b l1 (by omega) (by omega) (by omega) (by omega)).rounds
        rw [partialIns_small a b l1.toArray (by omega)] at hk
        dsimp only at hk
        have hT2 := HS2.out
        rw [Bool.true_and] at hT2
        obtain ⟨s,hs⟩ : ∃ s,s = decide (scanSorted ltInt l1.toArray b (a + 1) = b) := ⟨_,rfl⟩
        rw [← hs] at hk hT2
        have HC := Aside0.mk (slices_partialInsertionSortOrdered_uint64.calls k (fun _ => True) _ l1 (a : Int) (b : Int) s l1 w0 wc HB.out HO.out.R hk)
        clear hs hk HO HB HS2
        cases s with
        | true =>
         have HT2 := Aside0.mk (show T.toList = l1 by rw [hT2,if_pos rfl])
         clear hT2
         go_wp2_with (first|(go_at_call 110;(with_reducible refine HC.out.mono ?_);rintro e w' ⟨rfl,h1,h2,h3⟩;have H1 := Aside0.mk (Own.of h1);have H2 := Aside0.mk h2;clear h1 h2 h3))
         first|go_end0|((try simp only [Exit.inBlock,Exit.then]);refine bodyPost_ret (results_none rfl _ _ _) rfl ?_)
         rw [HT2.out]
         exact ⟨rfl,H1,H2⟩
        | false =>
         have HT2 := Aside0.mk (show T = pdqB l1.toArray a b lim wb wp pv by rw [hT2,if_neg (by decide)])
         clear hT2
         go_wp2_with (first|(go_at_call 110;(with_reducible refine HC.out.mono ?_);rintro e w' ⟨rfl,h1,h2,h3⟩;have H1 := Aside0.mk (Own.of h1);have H2 := Aside0.mk h2;clear h1 h2 h3))
         go_meet
         case rel => exact ⟨HT2,H1,H2⟩
      case rest =>
       clear HO HB HS2
       obtain ⟨HT,HO,HB⟩ := hcut
       have hsz : l1.toArray.size = len := by rw [List.size_toArray];exact hl1
       obtain ⟨x,hx⟩ : ∃ x,x = ltInt l1.toArray[a - 1]! l1.toArray[pv]! := ⟨_,rfl⟩
       have hTB := HT.out
       unfold pdqB at hTB
       rw [← hx] at hTB
       obtain ⟨z,hz⟩ : ∃ z,z = (decide (a > 0) && !x) := ⟨_,rfl⟩
       rw [← hz] at hTB
       have HTB := Aside0.mk hTB
       clear hTB HT
       go_upto_region 17 with (fail)
       go_cut [87] (fun v87 wd => v87 = .bool z ∧ Aside0 (Own wd w0.heap.size g q len l1) ∧ Aside0 (RowKit.Below w0.heap.size w0 wd))
       case first =>
        clear HTB hsz
        by_cases ha0 : 0 < a
        ·have g1 : decide ((a : Int) > 0) = true := decide_eq_true (by omega)
         have g2 : decide ((0 : Int) < (a : Int)) = true := decide_eq_true (by omega)
         have c1 := (own_at HO.out.2 ((a - 1 : Nat) : Int) (by omega) (by omega)).1
         have c2 := (own_at HO.out.2 (pv : Int) (by omega) (by omega)).1
         rw [Int.toNat_natCast] at c1 c2
         have hq : ltInt (rd l1 ((a - 1 : Nat) : Int)) (rd l1 (pv : Int)) = x := by rw [srd,srd,hx]
         obtain ⟨x1,e1⟩ : ∃ y,rd l1 ((a - 1 : Nat) : Int) = y := ⟨_,rfl⟩
         obtain ⟨x2,e2⟩ : ∃ y,rd l1 (pv : Int) = y := ⟨_,rfl⟩
         rw [e1] at c1 hq
         rw [e2] at c2 hq
         have HQ := Aside0.mk (fun w => less_calls hq w)
         have p1 : ((0 : Int) ≤ (a : Int) - 1) = True := eq_true (by omega)
         have p2 : ((a : Int) - 1 < (len : Int)) = True := eq_true (by omega)
         have p3 : ((0 : Int) ≤ (pv : Int)) = True := eq_true (by omega)
         have p4 : ((pv : Int) < (len : Int)) = True := eq_true (by omega)
         have hzx : z = !x := by rw [hz,decide_eq_true ha0,Bool.true_and]
         have hwr : IntKind.i64.wrap ((a : Int) - 1) = (a : Int) - 1 := wrapI_id (by omega) (by omega)
         have htn : ((a : Int) - 1).toNat = a - 1 := by omega
         have HZX := Aside0.mk hzx
         clear hx hz hzx e1 e2 hq
         go_quiet ((refine Calls.quiet_of (HQ.out _)))
         clear hwr htn
         go_wp2
         go_meet
         case rel => exact ⟨by rw [HZX.out],⟨HO.out.1,pw_own_drewN HO.out.2 _⟩,⟨pw_below_drewN HB.out _⟩⟩
        ·have g1 : decide ((a : Int) > 0) = false := decide_eq_false (by omega)
         have g2 : decide ((0 : Int) < (a : Int)) = false := decide_eq_false (by omega)
         have hzx : z = false := by rw [hz,decide_eq_false ha0,Bool.false_and]
         have HZX := Aside0.mk hzx
         clear hx hz hzx
         go_quiet (fail)
         go_wp2
         go_meet
         case rel => exact ⟨by rw [HZX.out],⟨HO.out.1,pw_own_drewN HO.out.2 _⟩,⟨pw_below_drewN HB.out _⟩⟩
       case rest =>
        clear HO HB hx hz
        obtain ⟨rfl,HO,HB⟩ := hcut
        cases z with
        | true =>
         have hT := HTB.out
         rw [if_pos rfl] at hT
         obtain ⟨k,hk⟩ := (peq_ev a b pv l1 (by omega) hpv1 hpv2 (by omega) (by omega)).rounds
         have hr := peq_range a b (a + 1) (b - 1) (swp l1.toArray a pv) (by omega) (by omega)
         have hr2 : a + 1 ≤ (partitionEqual ltInt l1.toArray a b pv).1 ∧ (partitionEqual ltInt l1.toArray a b pv).1 ≤ b := by
          unfold partitionEqual
          omega
         obtain ⟨r,hr3⟩ : ∃ r,r = partitionEqual ltInt l1.toArray a b pv := ⟨_,rfl⟩
         rw [← hr3] at hT hk hr2
         obtain ⟨mid,d4⟩ := r
         dsimp only at hT hk hr2
         have HC := Aside0.mk (slices_partitionEqualOrdered_uint64.calls k (fun _ => True) _ l1 (a : Int) (b : Int) (pv : Int) (mid : Int) d4.toList w0 wc HB.out HO.out.R hk)
         have HT3 := Aside0.mk (show T = pdq ltInt d4.toList.toArray mid b lim wb wp from hT)
         obtain ⟨m1,m2⟩ := hr2
         have HK2 := Aside0.mk (show b - mid ≤ b - (a + 1) ∧ b - (a + 1) ≤ n ∧ mid ≤ b ∧ b ≤ len ∧ lim ≤ 62 by omega)
         clear hT hk hr hr3 HO HB HTB hsz
         go_wp2_with (first|(go_at_call 112;(with_reducible refine HC.out.mono ?_);rintro e w' ⟨rfl,h1,h2,h3⟩;have H1 := Aside0.mk (Own.of h1);have H2 := Aside0.mk h2;clear h1 h2 h3))
         go_roundg (b - (a + 1))
         case measure => omega
         case rel => exact ⟨mid,b,lim,wb,wp,d4.toList,rfl,rfl,rfl,rfl,rfl,HK2,HT3,H1,H2⟩
        | false =>
         have hT := HTB.out
         rw [if_neg (by decide)] at hT
         obtain ⟨k,hk⟩ := (part_ev a b pv l1 (by omega) hpv1 hpv2 (by omega) (by omega)).rounds
         have hpt := partition_holds ltInt swo l1.toArray a b pv hpv1 hpv2 (by omega)
         have hr2 : a ≤ (Go.Sort.partition ltInt l1.toArray a b pv).1 ∧ (Go.Sort.partition ltInt l1.toArray a b pv).1 < b := ⟨hpt.1,hpt.2.1⟩
         clear hpt
         obtain ⟨r,hr3⟩ : ∃ r,r = Go.Sort.partition ltInt l1.toArray a b pv := ⟨_,rfl⟩
         rw [← hr3] at hT hk hr2
         obtain ⟨mid,ap,d4⟩ := r
         dsimp only at hT hk hr2
         have HC := Aside0.mk (slices_partitionOrdered_uint64.calls k (fun _ => True) _ l1 (a : Int) (b : Int) (pv : Int) (mid : Int) ap d4.toList w0 wc HB.out HO.out.R hk)
         obtain ⟨m1,m2⟩ := hr2
         by_cases hlr : mid - a < b - mid
         ·rw [if_pos hlr] at hT
          have hrec := fun (w : World) (ho : Own w w0.heap.size g q len d4.toList) (hB : RowKit.Below w0.heap.size w0 w) => HIH.out (mid - a) (by omega) d4.toList a mid lim w (Nat.le_refl _) (by omega) (by omega) hlim2 ho hB
          have HRec := Aside0.mk hrec
          have HT3 := Aside0.mk (show T = pdq ltInt (pdq ltInt d4.toList.toArray a mid lim true true).toList.toArray (mid + 1) b lim (decide (mid - a ≥ (b - a) / 8)) ap from hT)
          have HK2 := Aside0.mk (show b - (mid + 1) ≤ b - (a + 1) ∧ b - (a + 1) ≤ n ∧ mid + 1 ≤ b ∧ b ≤ len ∧ lim ≤ 62 by omega)
          have q5 : decide ((mid : Int) - (a : Int) < (b : Int) - (mid : Int)) = true := decide_eq_true (by omega)
          clear hrec hT hk hr3 HO HB HTB hsz
          go_wp2_with (first
           | (go_at_call 113;(with_reducible refine HC.out.mono ?_);rintro e w' ⟨rfl,h1,h2,h3⟩;have H1 := Aside0.mk (Own.of h1);have H2 := Aside0.mk h2;clear h1 h2 h3)
           | (go_at_call 102;(with_reducible refine (HRec.out _ H1.out H2.out).mono ?_);rintro e w'' ⟨rfl,H3,H4⟩))
          go_roundg (b - (a + 1))
          case measure => omega
          case rel => exact ⟨mid + 1,b,lim,decide (mid - a ≥ (b - a) / 8),ap,_,by go_num,rfl,rfl,by congr 1;exact decide_eq_decide.mpr (by omega),rfl,HK2,HT3,H3,H4⟩
         ·rw [if_neg hlr] at hT
          have hrec := fun (w : World) (ho : Own w w0.heap.size g q len d4.toList) (hB : RowKit.Below w0.heap.size w0 w) => HIH.out (b - (mid + 1)) (by omega) d4.toList (mid + 1) b lim w (Nat.le_refl _) (by omega) (by omega) hlim2 ho hB
          have HRec := Aside0.mk hrec
          have HT3 := Aside0.mk (show T = pdq ltInt (pdq ltInt d4.toList.toArray (mid + 1) b lim true true).toList.toArray a mid lim (decide (b - mid ≥ (b - a) / 8)) ap from hT)
          have HK2 := Aside0.mk (show mid - a ≤ b - (a + 1) ∧ b - (a + 1) ≤ n ∧ a ≤ mid ∧ mid ≤ len ∧ lim ≤ 62 by omega)
          have q5 : decide ((mid : Int) - (a : Int) < (b : Int) - (mid : Int)) = false := decide_eq_false (by omega)
          have hmw : (mid : Int) + 1 = ((mid + 1 : Nat) : Int) := by omega
          have HMW := Aside0.mk hmw
          clear hmw hrec hT hk hr3 HO HB HTB hsz
          go_wp2_with (first
           | (go_at_call 113;(with_reducible refine HC.out.mono ?_);rintro e w' ⟨rfl,h1,h2,h3⟩;have H1 := Aside0.mk (Own.of h1);have H2 := Aside0.mk h2;clear h1 h2 h3)
           | (go_at_call 102;rw [HMW.out];(with_reducible refine (HRec.out _ H1.out H2.out).mono ?_);rintro e w'' ⟨rfl,H3,H4⟩))
          go_roundg (b - (a + 1))
          case measure => omega
          case rel => exact ⟨a,mid,lim,decide (b - mid ≥ (b - a) / 8),ap,_,rfl,rfl,rfl,by congr 1;exact decide_eq_decide.mpr (by omega),rfl,HK2,HT3,H3,H4⟩
theorem pdq_all (g q len : Nat) (w0 : World) (hlen : len < 50) : ∀ n,PdqOk g q len w0 n := fun n => Nat.strongRecOn n fun n ih => pdq_walk g q len w0 hlen n ih
end Go.Proofs.Ytmdoaijkaaaglaa.Srt
end
