/- Part 5 of the proof's texts, joined in build order. -/
import Derived.Test.YtjnkkfdlcbcelaaZFIT4
import Derived.Test.YtjnkkfdlcbcelaaZFIT1
import Derived.Lib.Hide
import Derived.Deep.RegionHeld3
import Derived.ArgAppend
import Derived.Test.YtjnkkfdlcbcelaaZFIT0
set_option linter.unusedVariables false
set_option linter.unusedSimpArgs false
section
namespace Go.Proofs.Ytjnkkfdlcbcelaa.Hw
open Go.RowKit Go.Proofs.Ytjnkkfdlcbcelaa.Pr Go.Proofs.YtjnkkfdlcbcelaaW.PrintWords Go.Proofs.YtjnkkfdlcbcelaaW.PrintLast Go.Proofs.YtjnkkfdlcbcelaaW.PrintMore Go.Sort Go.Proofs.Ytjnkkfdlcbcelaa.Srt
theorem extract_all (l : List Int) (n : Nat) (h : n = l.length) : (l.toArray.extract 0 n).toList = l := by
 subst h
 simp
theorem pdq_perm (l : List Int) : (pdq ltInt l.toArray 0 l.length (bitsLen l.length) true true).toList.Perm l ∧
  (∀ p q,p < q → q < (pdq ltInt l.toArray 0 l.length (bitsLen l.length) true true).toList.length → (pdq ltInt l.toArray 0 l.length (bitsLen l.length) true true).toList.getD p 0 ≤ (pdq ltInt l.toArray 0 l.length (bitsLen l.length) true true).toList.getD q 0) := by
 obtain ⟨⟨h1,h2,h3⟩,h4⟩ := pdq_sorts ltInt swo l.toArray 0 l.length (bitsLen l.length) true true (Nat.zero_le _) (by rw [List.size_toArray];exact Nat.le_refl _) (Or.inl rfl)
 obtain ⟨T,hT⟩ : ∃ T,T = pdq ltInt l.toArray 0 l.length (bitsLen l.length) true true := ⟨_,rfl⟩
 rw [← hT] at h1 h2 h3 h4 ⊢
 clear hT
 obtain ⟨t⟩ := T
 rw [List.size_toArray,List.size_toArray] at h1
 rw [extract_all l _ rfl,extract_all t _ h1.symm] at h3
 refine ⟨h3,fun p q hpq hq => ?_⟩
 have hq' : q < t.length := hq
 have := h4 p q (Nat.zero_le _) hpq (by omega)
 rw [← srd,← srd,rd_nat,rd_nat] at this
 exact Int.not_lt.mp (fun hlt => by rw [show ltInt (t.getD q 0) (t.getD p 0) = decide (t.getD q 0 < t.getD p 0) from rfl,decide_eq_true hlt] at this;exact absurd this (by decide))
set_option maxHeartbeats 1000000 in
set_option maxRecDepth 100000 in
theorem sort_big (A : Option Addr) (c : Nat) (l : List Int) (hl : l.length < 50) (h0 : 0 < l.length) (w0 w : World) (hB : RowKit.Below w0.heap.size w0 w) (ho : Kd.R (Kd.int .u64) 22 w w0.heap.size (fun _ => True) (.slice A l.length c) l) :
  Calls Try.prog 68 #[.slice A l.length c] w fun e w' => e = .returned (.tuple #[]) ∧ Kd.R (Kd.int .u64) 22 w' w0.heap.size (fun _ => True) (.slice A l.length c) (pdq ltInt l.toArray 0 l.length (bitsLen l.length) true true).toList ∧ RowKit.Below w0.heap.size w0 w' := by
 obtain ⟨g,q,hv,hb0,how⟩ := R_open ho h0
 cases hv
 have HO := Aside0.mk (show Own w w0.heap.size g c l.length l from ⟨rfl,how⟩)
 have HB := Aside0.mk hB
 have HL := Aside0.mk (len_tab l.length hl)
 have hb62 : bitsLen l.length ≤ 62 := by
  have : ∀ n,n < 50 → bitsLen n ≤ 62 := by decide +kernel
  exact this _ hl
 clear ho how hB
 go_enter Try.func68,Try.ntmps68
 go_wp2_with (first
  | (go_at_call 80;(refine (bits_Len.calls 3 _ _ _ HL.out).mono ?_);rintro e w' ⟨rfl,⟨nd,rfl⟩⟩;have hq := pdq_all g c l.length w0 hl l.length l 0 l.length (bitsLen l.length) (w.drewN nd) (by omega) (Nat.zero_le _) (Nat.le_refl _) hb62 ⟨rfl,pw_own_drewN HO.out.2 nd⟩ (pw_below_drewN HB.out nd);rw [show ((0 : Nat) : Int) = 0 from rfl] at hq;have hc := Aside0.mk hq;clear hq)
  | (go_at_call 79;(with_reducible refine hc.out.mono ?_);rintro e w' ⟨rfl,H1,H2⟩))
 first|go_end0|((try simp only [Exit.inBlock,Exit.then]);refine bodyPost_ret (results_none rfl _ _ _) rfl ?_)
 exact ⟨rfl,H1.out.R,H2.out⟩
set_option maxHeartbeats 1000000 in
set_option maxRecDepth 100000 in
theorem unlike_big (A : Option Addr) (c : Nat) (l : List Int) (w : World) (hr : Kd.C (Kd.int .u64) w A l.length l) (hc : l.length ≤ c) (hl : l.length ≤ 49) :
  Calls Try.prog 52 #[.slice A l.length c] w fun e w' => e = .returned (.bool (decide l.Nodup)) ∧ RowKit.Below w.heap.size w w' := by
 by_cases h12 : l.length ≤ 12
 ·exact unlike_calls A c l w hr hc h12
 obtain ⟨h2,h3⟩ := pdq_perm l
 obtain ⟨r,hr0⟩ : ∃ r,r = (pdq ltInt l.toArray 0 l.length (bitsLen l.length) true true).toList := ⟨_,rfl⟩
 have hso0 := fun A1 c1 w1 hB ho => sort_big A1 c1 l (by omega) (by omega) w w1 hB ho
 rw [← hr0] at h2 h3 hso0
 clear hr0
 have hrl : r.length = l.length := h2.length_eq
 have HS := Aside0.mk hso0
 have HD := Aside0.mk ((diff_iff h3).trans h2.nodup_iff)
 have HR := Aside0.mk hrl
 have hcl := Aside0.mk (clone_u64 A c l w hr hc (by omega))
 clear h2 h3 hr hrl hso0
 obtain ⟨b,hb⟩ : ∃ b : Bool,b = decide l.Nodup := ⟨_,rfl⟩
 rw [← hb]
 have HBb := Aside0.mk hb
 clear hb
 go_enter Try.func52,Try.ntmps52
 go_wp2_with (first
  | (go_at_call 67;(with_reducible refine hcl.out.mono ?_);rintro e w1 ⟨v0,rfl,ho,hb1⟩;obtain ⟨A1,c1,rfl⟩ := Kd.R_slice ho;have hso := Aside0.mk (HS.out A1 c1 w1 hb1 ho);clear ho hb1)
  | (go_at_call 68;(with_reducible refine hso.out.mono ?_);rintro e w2 ⟨rfl,ho,hb2⟩;rw [← HR.out] at ho;have hco := Aside0.mk (compact_u64 A1 c1 r (by rw [HR.out];omega) w w2 hb2 ho);rw [HR.out] at hco;clear ho hb2)
  | (go_at_call 69;(with_reducible refine hco.out.mono ?_);rintro e w3 ⟨hex,hb3⟩;obtain ⟨⟨A3,m,c3,rfl,hm⟩⟩ := hex;have HM := Aside0.mk hm;have HB3 := Aside0.mk hb3;clear hm hb3))
 go_ret
 refine ⟨?_,HB3.out⟩
 have e : ((m : Int) == (l.length : Int)) = b := by
  rw [HBb.out,Bool.eq_iff_iff,beq_iff_eq,decide_eq_true_iff,← HD.out,HR.out,← HM.out]
  omega
 rw [e]
 rfl
end Go.Proofs.Ytjnkkfdlcbcelaa.Hw
end
section
namespace Go.Proofs.Ytjnkkfdlcbcelaa.Hw
open Go.RowKit Go.Proofs.Ytjnkkfdlcbcelaa.Pr Go.Proofs.YtjnkkfdlcbcelaaW.PrintWords Go.Proofs.YtjnkkfdlcbcelaaW.PrintLast Go.Proofs.YtjnkkfdlcbcelaaW.PrintMore Go.Proofs.Ytjnkkfdlcbcelaa.E
def grow (l : List Int) (n : Nat) : List Int := l ++ List.replicate (n - l.length) 0
def putL (p : Int) (l : List Int) (i : Nat) (k : Int) : List Int := (grow l (i + 1)).set i (((grow l (i + 1)).getD i 0 + k) % p)
structure SumAt (w : World) (base g : Nat) (p : Int) (v : Value) (l : List Int) : Prop where
 blk : w.heap[g]? = some (.cells #[.int .u64 p,v] 92 (0,0))
 own : Kd.R (Kd.int .u64) 22 w base (fun _ => True) v l
 ge : base ≤ g
set_option maxHeartbeats 1000000 in
theorem put_calls {p : Int} (hp : Supp p) {l : List Int} (hl : ∀ x ∈ l,Res p x) (i : Nat) (hi : i < 1099511627776) (hll : l.length ≤ 1099511627776) {k : Int} (hk : Res p k) (w0 w : World) (hB : Below w0.heap.size w0 w) (g : Nat) (v : Value) (h : SumAt w w0.heap.size g p v l) :
  Calls Try.prog 70 #[.pointer (some ⟨g,0,none⟩),.int .i64 (i : Int),.int .u64 k] w fun e w' => e = .returned (.tuple #[]) ∧ Aside0 (∃ v',SumAt w' w0.heap.size g p v' (putL p l i k)) ∧ Below w0.heap.size w0 w' := by
 have HS := Aside0.mk h
 have HBx := Aside0.mk hB
 clear h hB
 go_enter Try.func70,Try.ntmps70
 go_wp2
 go_loopg [12] (i + 1 - l.length) (fun kq v12 w' => ∃ (m : List Int) (v' : Value),Aside0 (SumAt w' w0.heap.size g p v' m) ∧ Aside0 (Below w0.heap.size w0 w') ∧ Aside0 (∃ j,m = l ++ List.replicate j 0 ∧ kq + j = i + 1 - l.length))
 case atStart => exact ⟨l,v,HS,HBx,⟨0,by simp,rfl⟩⟩
 case round =>
  obtain ⟨m,v',HS',HB',⟨j,HM⟩⟩ := hrel
  replace HM := Aside0.mk HM
  clear HS HBx
  obtain ⟨A,c,rfl⟩ := Kd.R_slice HS'.out.own
  have c0 := blk_cell HS'.out.blk 0
  have c1 := blk_cell HS'.out.blk 1
  have f1 := blk_frozen HS'.out.blk 1
  simp only [List.getElem?_toArray,List.getElem?_cons_zero,List.getElem?_cons_succ] at c0 c1
  by_cases hle : m.length ≤ i
  ·have hd : decide (m.length ≤ i) = true := decide_eq_true hle
   obtain ⟨m1,hm1⟩ : ∃ y : List Int,y = m ++ [0] := ⟨_,rfl⟩
   have NM := Aside0.mk hm1
   clear hm1
   go_wp2_with (first|((with_reducible refine gate_builtin (b := .append) (xs := #[.tmp 17,.tmp 18]) rfl ?_);at_builtin;refine Kd.R_append (Kd.int .u64) (w0 := w0) w0.heap.size rfl (.tmp 17) (.tmp 18) 41 22 (.int .u64 0) 8 rfl Try.underlying41 info22 rfl (by decide) (by omega) (.slice A m.length c) m 0 [.int .u64 0] (fun _ => True) (fun _ => False) rfl rfl rfl (fun _ hk => hk.elim) (fun _ _ => trivial) HS'.out.own HB'.out (below_size HB'.out) (by omega) ?_;intro v1 w1 ho hb hg hat;rw [← NM.out] at ho;obtain ⟨A1,q1,rfl⟩ := Kd.R_slice ho;have hblk1 := Aside0.mk (blk_grown HS'.out.blk hg (Kd.R_ne HS'.out.own HS'.out.blk (by decide)));have c1' := blk_cell hblk1.out 1;have f1' := blk_frozen hblk1.out 1;simp only [List.getElem?_toArray,List.getElem?_cons_zero,List.getElem?_cons_succ] at c1';have HO1 := Aside0.mk ho;have HB1 := Aside0.mk hb;clear ho hb hg hat))
   go_roundg (i + 1 - l.length - (j + 1))
   case measure => have := HM.out;have : m.length = l.length + j := (by rw [HM.out.1];simp);omega
   case rel =>
    have hml : m.length = l.length + j := by rw [HM.out.1];simp
    have hk := HM.out.2
    refine ⟨m1,.slice A1 m1.length q1,⟨⟨?_,?_,HS'.out.ge⟩⟩,⟨?_⟩,⟨j + 1,?_,by omega⟩⟩
    ·exact blk_put hblk1.out 1 _ rfl
    ·exact Kd.R_set HO1.out hblk1.out (by decide) 1 _
    ·exact HB1.out.setCell HS'.out.ge _
    ·rw [NM.out,HM.out.1,List.replicate_succ',List.append_assoc]
  ·have hd : decide (m.length ≤ i) = false := decide_eq_false hle
   go_wp2
   have hml : m.length = l.length + j := by rw [HM.out.1];simp
   have hkj := HM.out.2
   obtain ⟨b,q,hv,hb0,how⟩ := R_open HS'.out.own (by omega)
   cases hv
   have ⟨ci,fi⟩ := own_at how (i : Int) (by omega) (by omega)
   rw [Int.toNat_natCast] at ci fi
   have p1 : ((0 : Int) ≤ (i : Int)) = True := eq_true (by omega)
   have p2 : ((i : Int) < (m.length : Int)) = True := eq_true (by omega)
   have hmr : ∀ x ∈ m,Res p x := by
    intro x hx
    rw [HM.out.1] at hx
    rcases List.mem_append.1 hx with h|h
    ·exact hl x h
    ·rw [(List.mem_replicate.1 h).2];have := hp.bd;exact ⟨by omega,by omega⟩
   have hri : Res p (rd m i) := by
    have e : rd m i = m[i]'(by omega) := by unfold rd;rw [Int.toNat_natCast,List.getD_eq_getElem?_getD,List.getElem?_eq_getElem (by omega)];rfl
    rw [e];exact hmr _ (List.getElem_mem _)
   obtain ⟨kk,hkk⟩ := (add_ev hp hri hk).rounds
   have hgm : m = grow l (i + 1) := by rw [HM.out.1];unfold grow;rw [show i + 1 - l.length = j from by omega]
   have HG := Aside0.mk hgm
   have HKK := Aside0.mk hkk
   have HOW := Aside0.mk how
   clear hml hkj hmr hgm hkk how
   refine wp_region_quiet_tail_drawn 19 (by kernel_rfl) (by kernel_rfl) ?_
   simp only [List.take_succ_cons,List.take_zero,List.drop_succ_cons,List.drop_zero]
   repeat (quiet_step ((refine Calls.quiet_of ((field_Add.calls kk _ _ _ ((rd m i + k) % p) _ HKK.out).mono fun e w' h => ⟨h.1,h.2.out⟩))))
   refine wpQuiet_nil ?_
   rintro _ ⟨nq,rfl⟩
   go_wp2
   go_end0
   have hne : g ≠ b := fun e => Kd.R_ne HS'.out.own HS'.out.blk (by decide) (by rw [e];rfl)
   have hset := own_put (pw_own_drewN HOW.out nq) (i : Int) ((rd m i + k) % p)
   rw [Int.toNat_natCast] at hset
   refine ⟨rfl,⟨.slice (some ⟨b,0,none⟩) m.length c,?_,?_,HS'.out.ge⟩,(pw_below_drewN HB'.out nq).setCell hb0 _⟩
   ·exact blk_far (blk_drewN HS'.out.blk nq) hne _
   ·unfold putL
    rw [← HG.out]
    have hl : (m.set i ((m.getD i 0 + k) % p)).length = m.length := by simp
    rw [show m.getD i 0 = rd m i from rfl] at hl ⊢
    refine R_made ?_ (fun _ _ => trivial)
    exact hset
theorem putL_length (p : Int) (l : List Int) (i : Nat) (k : Int) : (putL p l i k).length = max l.length (i + 1) := by unfold putL grow;simp;omega
theorem grow_res {p : Int} (hp : Supp p) {l : List Int} (hl : ∀ x ∈ l,Res p x) (n : Nat) : ∀ x ∈ grow l n,Res p x := by
 intro x hx
 have := hp.bd
 rcases List.mem_append.1 hx with h|h
 ·exact hl x h
 ·rw [(List.mem_replicate.1 h).2];exact ⟨by omega,by omega⟩
theorem putL_res {p : Int} (hp : Supp p) {l : List Int} (hl : ∀ x ∈ l,Res p x) (i : Nat) (k : Int) : ∀ x ∈ putL p l i k,Res p x := by
 intro x hx
 rcases List.mem_or_eq_of_mem_set hx with h|h
 ·exact grow_res hp hl _ x h
 ·rw [h];exact Res.mod hp _
def putsL (p : Int) (m l : List Int) : Nat → List Int
 | 0 => m
 | n + 1 => putL p (putsL p m l n) n (l.getD n 0)
theorem putsL_res {p : Int} (hp : Supp p) {m l : List Int} (hm : ∀ x ∈ m,Res p x) : ∀ n,∀ x ∈ putsL p m l n,Res p x
 | 0 => hm
 | n + 1 => putL_res hp (putsL_res hp hm n) _ _
theorem putsL_length (p : Int) (m l : List Int) : ∀ n,(putsL p m l n).length = max m.length n
 | 0 => by simp [putsL]
 | n + 1 => by rw [putsL,putL_length,putsL_length p m l n];omega
theorem rd_res {p : Int} {l : List Int} (hl : ∀ x ∈ l,Res p x) (i : Nat) (hi : i < l.length) : Res p (rd l i) := by
 have e : rd l i = l[i] := by unfold rd;rw [Int.toNat_natCast,List.getD_eq_getElem?_getD,List.getElem?_eq_getElem hi];rfl
 rw [e];exact hl _ (List.getElem_mem _)
set_option maxHeartbeats 1000000 in
theorem poly_Add.walks (p : Int) (hp : Supp p) (A1 : Option Addr) (c1 : Nat) (l1 : List Int) (A2 : Option Addr) (c2 : Nat) (l2 : List Int) (h1 : ∀ x ∈ l1,Res p x) (h2 : ∀ x ∈ l2,Res p x) (b1 : l1.length ≤ 1099511627776) (b2 : l2.length ≤ 1099511627776) (w : World)
  (hr1 : Kd.C (Kd.int .u64) w A1 l1.length l1) (hc1 : l1.length ≤ c1) (hr2 : Kd.C (Kd.int .u64) w A2 l2.length l2) (hc2 : l2.length ≤ c2) (r : List Int) (k : Nat) (ht : poly_Trim.f k (putsL p (putsL p [] l1 l1.length) l2 l2.length) = some r) :
  Calls Try.prog 56 #[.int .u64 p,.slice A1 l1.length c1,.slice A2 l2.length c2] w fun e w' => ∃ v0_ : Value,e = .returned (v0_) ∧ Kd.R (Kd.int .u64) 22 w' w.heap.size (fun _ => True) v0_ r ∧ Below w.heap.size w w' := by
 have HR1 := Aside0.mk hr1
 have HR2 := Aside0.mk hr2
 have HT := Aside0.mk ht
 have H1 := Aside0.mk h1
 have H2 := Aside0.mk h2
 have HL1 := Aside0.mk (fun n (hn : n ≤ l1.length) => (show (putsL p [] l1 n).length ≤ 1099511627776 from by rw [putsL_length];simp;omega))
 have HL2 := Aside0.mk (fun n (hn : n ≤ l2.length) => (show (putsL p (putsL p [] l1 l1.length) l2 n).length ≤ 1099511627776 from by rw [putsL_length,putsL_length];simp;omega))
 clear hr1 hr2 ht h1 h2
 have hS0 : Aside0 (SumAt (w.alloc (Obj.cells #[Value.int IntKind.u64 p,Value.slice none 0 0] 92)) w.heap.size w.heap.size p (.slice none 0 0) []) := ⟨⟨blk_new _ _,Kd.R_nil _ _ _ _ _,Nat.le_refl _⟩⟩
 go_enter Try.func56,Try.ntmps56
 go_wp2
 go_loopg [20] l1.length (fun kq v20 w' => ∃ (n : Nat) (v' : Value),v20 = .int .i64 n ∧ Aside0 (kq + n = l1.length) ∧ Aside0 (SumAt w' w.heap.size w.heap.size p v' (putsL p [] l1 n)) ∧ Aside0 (Below w.heap.size w w'))
 case atStart => exact ⟨0,_,rfl,⟨rfl⟩,hS0,⟨below_alloc (Below.refl _ _) _⟩⟩
 case round =>
  obtain ⟨n,v',rfl,HK,HS,HB⟩ := hrel
  clear hS0
  by_cases hlt : n < l1.length
  ·have p1 : ((0 : Int) ≤ (n : Int)) = True := eq_true (by omega)
   have q1 : ((n : Int) < (l1.length : Int)) = True := eq_true (by omega)
   obtain ⟨ad,e1,hx⟩ := Kd.at_int HR1.out (n : Int) (by omega) (by omega)
   cases e1
   replace hx := pw_cell_below HB.out hx
   rw [Int.toNat_natCast] at hx
   have hput := Aside0.mk (put_calls hp (putsL_res hp (fun x hx => by cases hx) n) n (by omega) (HL1.out n (by omega)) (rd_res H1.out n hlt) w wr HB.out w.heap.size v' HS.out)
   go_wp2_with (first|(go_at_call 70;(with_reducible refine hput.out.mono ?_);rintro e w' ⟨rfl,HP,HB2⟩))
   go_roundg (l1.length - (n + 1))
   case measure => have := HK.out;omega
   case rel =>
    obtain ⟨v2,HS2⟩ := HP.out
    exact ⟨n + 1,v2,by go_num,⟨by omega⟩,⟨HS2⟩,⟨HB2⟩⟩
  ·have hd : decide ((n : Int) < (l1.length : Int)) = false := decide_eq_false (by omega)
   have hn : n = l1.length := by have := HK.out;omega
   subst hn
   clear HK hlt hd
   go_wp2
   go_loopg [32] l2.length (fun kq v32 w' => ∃ (n : Nat) (v' : Value),v32 = .int .i64 n ∧ Aside0 (kq + n = l2.length) ∧ Aside0 (SumAt w' w.heap.size w.heap.size p v' (putsL p (putsL p [] l1 l1.length) l2 n)) ∧ Aside0 (Below w.heap.size w w'))
   case atStart => exact ⟨0,_,rfl,⟨rfl⟩,HS,HB⟩
   case round =>
    clear HS HB
    obtain ⟨n,v',rfl,HK,HS,HB⟩ := hrel
    by_cases hlt : n < l2.length
    ·have p1 : ((0 : Int) ≤ (n : Int)) = True := eq_true (by omega)
     have q1 : ((n : Int) < (l2.length : Int)) = True := eq_true (by omega)
     obtain ⟨ad,e1,hx⟩ := Kd.at_int HR2.out (n : Int) (by omega) (by omega)
     cases e1
     replace hx := pw_cell_below HB.out hx
     rw [Int.toNat_natCast] at hx
     have hput := Aside0.mk (put_calls hp (putsL_res hp (putsL_res hp (fun x hx => by cases hx) l1.length) n) n (by omega) (HL2.out n (by omega)) (rd_res H2.out n hlt) w wr HB.out w.heap.size v' HS.out)
     go_wp2_with (first|(go_at_call 70;(with_reducible refine hput.out.mono ?_);rintro e w' ⟨rfl,HP,HB2⟩))
     go_roundg (l2.length - (n + 1))
     case measure => have := HK.out;omega
     case rel =>
      obtain ⟨v2,HS2⟩ := HP.out
      exact ⟨n + 1,v2,by go_num,⟨by omega⟩,⟨HS2⟩,⟨HB2⟩⟩
    ·have hd : decide ((n : Int) < (l2.length : Int)) = false := decide_eq_false (by omega)
     have hn : n = l2.length := by have := HK.out;omega
     subst hn
     clear HK hlt hd
     obtain ⟨A,c,rfl,hcc,hC⟩ := Kd.R_reads HS.out.own
     have c1 := blk_cell HS.out.blk 1
     simp only [List.getElem?_toArray,List.getElem?_cons_zero,List.getElem?_cons_succ] at c1
     have htc := Aside0.mk (poly_Trim.calls k A c _ r wr hC hcc HT.out)
     clear hC
     go_wp2_with (first|(go_at_call 59;(with_reducible refine htc.out.mono ?_);rintro e w' ⟨v0,rfl,hv0,hb0⟩;have HV0 := Aside0.mk hv0;have HB0 := Aside0.mk hb0;clear hv0 hb0))
     go_ret
     exact ⟨v0,rfl,Kd.R_lower HV0.out (below_size HB.out),below_step HB.out HB0.out⟩
def rowL (p : Int) (m : List Int) (u : Int) (b : List Int) (i : Nat) : Nat → List Int
 | 0 => m
 | n + 1 => putL p (rowL p m u b i n) (i + n) (u * rd b n % p)
def mulsL (p : Int) (a b : List Int) : Nat → List Int
 | 0 => []
 | i + 1 => rowL p (mulsL p a b i) (rd a i) b i b.length
theorem rowL_res {p : Int} (hp : Supp p) {m : List Int} (hm : ∀ x ∈ m,Res p x) (u : Int) (b : List Int) (i : Nat) : ∀ n,∀ x ∈ rowL p m u b i n,Res p x
 | 0 => hm
 | n + 1 => putL_res hp (rowL_res hp hm u b i n) _ _
theorem rowL_length (p : Int) (m : List Int) (u : Int) (b : List Int) (i : Nat) : ∀ n,(rowL p m u b i n).length ≤ max m.length (i + n)
 | 0 => by simp [rowL];omega
 | n + 1 => by have := rowL_length p m u b i n;rw [rowL,putL_length];omega
theorem mulsL_res {p : Int} (hp : Supp p) (a b : List Int) : ∀ n,∀ x ∈ mulsL p a b n,Res p x
 | 0 => fun x hx => by cases hx
 | n + 1 => rowL_res hp (mulsL_res hp a b n) _ _ _ _
theorem mulsL_length (p : Int) (a b : List Int) : ∀ n,(mulsL p a b n).length ≤ n + b.length
 | 0 => by simp [mulsL]
 | n + 1 => by have := mulsL_length p a b n;have h := rowL_length p (mulsL p a b n) (rd a n) b n b.length;rw [mulsL];omega
set_option maxHeartbeats 2000000 in
set_option maxRecDepth 100000 in
theorem poly_Mul.walks (p : Int) (hp : Supp p) (A1 : Option Addr) (c1 : Nat) (l1 : List Int) (A2 : Option Addr) (c2 : Nat) (l2 : List Int) (h1 : ∀ x ∈ l1,Res p x) (h2 : ∀ x ∈ l2,Res p x) (b1 : l1.length ≤ 274877906944) (b2 : l2.length ≤ 274877906944) (w : World)
  (hr1 : Kd.C (Kd.int .u64) w A1 l1.length l1) (hc1 : l1.length ≤ c1) (hr2 : Kd.C (Kd.int .u64) w A2 l2.length l2) (hc2 : l2.length ≤ c2) (r : List Int) (k : Nat) (ht : poly_Trim.f k (mulsL p l1 l2 l1.length) = some r) :
  Calls Try.prog 55 #[.int .u64 p,.slice A1 l1.length c1,.slice A2 l2.length c2] w fun e w' => ∃ v0_ : Value,e = .returned (v0_) ∧ Kd.R (Kd.int .u64) 22 w' w.heap.size (fun _ => True) v0_ r ∧ Below w.heap.size w w' := by
 have HR1 := Aside0.mk hr1
 have HR2 := Aside0.mk hr2
 have HT := Aside0.mk ht
 have H1 := Aside0.mk h1
 have H2 := Aside0.mk h2
 have HL := Aside0.mk (fun i n (hi : i < l1.length) (hn : n ≤ l2.length) => (show (rowL p (mulsL p l1 l2 i) (rd l1 i) l2 i n).length ≤ 1099511627776 from by have := mulsL_length p l1 l2 i;have := rowL_length p (mulsL p l1 l2 i) (rd l1 i) l2 i n;omega))
 clear hr1 hr2 ht h1 h2
 have hS0 : Aside0 (SumAt (w.alloc (Obj.cells #[Value.int IntKind.u64 p,Value.slice none 0 0] 92)) w.heap.size w.heap.size p (.slice none 0 0) []) := ⟨⟨blk_new _ _,Kd.R_nil _ _ _ _ _,Nat.le_refl _⟩⟩
 go_enter Try.func55,Try.ntmps55
 go_wp2
 go_loopg [20] l1.length (fun kq v20 w' => ∃ (n : Nat) (v' : Value),v20 = .int .i64 (n : Int) ∧ Aside0 (kq + n = l1.length) ∧ Aside0 (SumAt w' w.heap.size w.heap.size p v' (mulsL p l1 l2 n)) ∧ Aside0 (Below w.heap.size w w'))
 case atStart => exact ⟨0,_,rfl,⟨rfl⟩,hS0,⟨below_alloc (Below.refl _ _) _⟩⟩
 case round =>
  obtain ⟨i,v',rfl,HK,HS,HB⟩ := hrel
  clear hS0
  by_cases hlt : i < l1.length
  ·have p1 : ((0 : Int) ≤ (i : Int)) = True := eq_true (by omega)
   have q1 : ((i : Int) < (l1.length : Int)) = True := eq_true (by omega)
   obtain ⟨ad,e1,hx⟩ := Kd.at_int HR1.out (i : Int) (by omega) (by omega)
   cases e1
   replace hx := pw_cell_below HB.out hx
   rw [Int.toNat_natCast] at hx
   go_wp2
   clear hx
   go_loopg [27] l2.length (fun kq v27 w' => ∃ (n : Nat) (v2 : Value),v27 = .int .i64 (n : Int) ∧ Aside0 (kq + n = l2.length) ∧ Aside0 (SumAt w' w.heap.size w.heap.size p v2 (rowL p (mulsL p l1 l2 i) (rd l1 i) l2 i n)) ∧ Aside0 (Below w.heap.size w w'))
   case atStart => exact ⟨0,v',rfl,⟨rfl⟩,HS,HB⟩
   case round =>
    clear HS HB
    obtain ⟨n,v2,rfl,HK2,HS,HB⟩ := hrel
    by_cases hlt2 : n < l2.length
    ·have p2 : ((0 : Int) ≤ (n : Int)) = True := eq_true (by omega)
     have q2 : ((n : Int) < (l2.length : Int)) = True := eq_true (by omega)
     obtain ⟨ad2,e2,hx⟩ := Kd.at_int HR2.out (n : Int) (by omega) (by omega)
     cases e2
     replace hx := pw_cell_below HB.out hx
     rw [Int.toNat_natCast] at hx
     obtain ⟨km,hkm⟩ := (mul_ev hp (rd_res H1.out i hlt) (rd_res H2.out n hlt2)).rounds
     have HKM := Aside0.mk hkm
     have hput := fun nd => put_calls hp (rowL_res hp (mulsL_res hp l1 l2 i) (rd l1 i) l2 i n) (i + n) (by omega) (HL.out i n hlt (by omega)) (Res.mod hp (rd l1 i * rd l2 n)) w (wr.drewN nd) (pw_below_drewN HB.out nd) w.heap.size v2 ⟨blk_drewN HS.out.blk nd,Kd.R_drewN HS.out.own nd,HS.out.ge⟩
     have HPUT := Aside0.mk hput
     clear hkm hput
     obtain ⟨u,hu⟩ : ∃ u,u = rd l1 i * rd l2 n % p := ⟨_,rfl⟩
     rw [← hu] at HKM HPUT
     have HU := Aside0.mk hu
     clear hu
     have hin : ((i : Int) + (n : Int)) = ((i + n : Nat) : Int) := by omega
     have HIN := Aside0.mk hin
     clear hin
     go_wp2_with (first
      | (go_at_call 27;(with_reducible refine (field_Mul.calls km p (rd l1 i) (rd l2 n) u _ HKM.out).mono ?_);rintro e w5 ⟨rfl,⟨nd,rfl⟩⟩)
      | (go_at_call 70;rw [HIN.out];(with_reducible refine (HPUT.out nd).mono ?_);rintro e w' ⟨rfl,HP,HB2⟩))
     go_roundg (l2.length - (n + 1))
     case measure => have := HK2.out;omega
     case rel =>
      obtain ⟨v3,HS2⟩ := HP.out
      refine ⟨n + 1,v3,by go_num,⟨by omega⟩,⟨?_⟩,⟨HB2⟩⟩
      rw [rowL,← HU.out];exact HS2
    ·have hd : decide ((n : Int) < (l2.length : Int)) = false := decide_eq_false (by omega)
     have hn : n = l2.length := by have := HK2.out;omega
     subst hn
     clear hlt2 hd
     go_wp2
     go_roundg (l1.length - (i + 1))
     case measure => have := HK.out;omega
     case rel => exact ⟨i + 1,v2,by go_num,⟨by omega⟩,HS,HB⟩
  ·have hd : decide ((i : Int) < (l1.length : Int)) = false := decide_eq_false (by omega)
   have hn : i = l1.length := by have := HK.out;omega
   subst hn
   clear HK hlt hd
   obtain ⟨A,c,rfl,hcc,hC⟩ := Kd.R_reads HS.out.own
   have c1 := blk_cell HS.out.blk 1
   simp only [List.getElem?_toArray,List.getElem?_cons_zero,List.getElem?_cons_succ] at c1
   have htc := Aside0.mk (poly_Trim.calls k A c _ r wr hC hcc HT.out)
   clear hC
   go_wp2_with (first|(go_at_call 59;(with_reducible refine htc.out.mono ?_);rintro e w' ⟨v0,rfl,hv0,hb0⟩;have HV0 := Aside0.mk hv0;have HB0 := Aside0.mk hb0;clear hv0 hb0))
   go_ret
   exact ⟨v0,rfl,Kd.R_lower HV0.out (below_size HB.out),below_step HB.out HB0.out⟩
theorem rd_res' {p : Int} {l : List Int} (hl : ∀ x ∈ l,Res p x) (i : Nat) (hi : i < l.length) : Res p (rd l i) := by
 have e : rd l i = l[i] := by unfold rd;rw [Int.toNat_natCast,List.getD_eq_getElem?_getD,List.getElem?_eq_getElem hi];rfl
 rw [e];exact hl _ (List.getElem_mem _)
theorem mul_ne' {p : Int} (hp : Supp p) {a b : Int} (ha : Res p a) (h0 : a ≠ 0) (hb : Res p b) (h1 : b ≠ 0) : a * b % p ≠ 0 := by
 intro h
 have e := inv_spec hp ha h0
 have e2 : invp p a * (a * b) % p = b := by
  rw [← Int.mul_assoc,Int.mul_comm (invp p a),mulm (a' := 1) (b' := b) (by rw [e];have := hp.bd;exact (Int.emod_eq_of_lt (by omega) (by omega)).symm) rfl,Int.one_mul,hb.eq]
 rw [mulm (a := invp p a) (b := a * b) (b' := 0) rfl (by rw [h];simp),Int.mul_zero,Int.zero_emod] at e2
 exact h1 e2.symm
theorem sub_ne' {p : Int} (hp : Supp p) {a b : Int} (ha : Res p a) (hb : Res p b) (h : a ≠ b) : (a - b) % p ≠ 0 := by
 intro h0
 have h2 := Int.emod_emod_of_dvd
 have hd : p ∣ a - b := Int.dvd_of_emod_eq_zero h0
 obtain ⟨k,hk⟩ := hd
 obtain ⟨a0,a1⟩ := ha
 obtain ⟨b0,b1⟩ := hb
 have hk0 : k = 0 := by
  rcases Int.lt_trichotomy k 0 with h3|h3|h3
  ·have : p * k ≤ p * (-1) := Int.mul_le_mul_of_nonneg_left (by omega) (by omega)
   omega
  ·exact h3
  ·have : p * 1 ≤ p * k := Int.mul_le_mul_of_nonneg_left (by omega) (by omega)
   omega
 subst hk0
 simp at hk
 omega
def Box (w : World) (b : Nat) (x : Int) : Prop := w.heap[b]? = some (.cells #[.int .u64 x] 22 (0,0))
theorem Box.cell {w : World} {b : Nat} {x : Int} (h : Box w b x) : w.cell? ⟨b,0,none⟩ = some (.int .u64 x) := blk_cell h 0
theorem Box.frozen {w : World} {b : Nat} {x : Int} (h : Box w b x) : w.frozen? ⟨b,0,none⟩ = false := blk_frozen h 0
theorem Box.drewN {w : World} {b : Nat} {x : Int} (h : Box w b x) (n : Nat) : Box (w.drewN n) b x := h
theorem Box.far {w : World} {b : Nat} {x : Int} (h : Box w b x) {g : Nat} (hne : b ≠ g) (v : Value) : Box (w.setCell ⟨g,0,none⟩ v) b x := blk_far (p := ⟨g,0,none⟩) h hne v
theorem Box.put {w : World} {b : Nat} {x : Int} (h : Box w b x) (y : Int) : Box (w.setCell ⟨b,0,none⟩ (.int .u64 y)) b y := blk_put h 0 _ rfl
def othersN (xs : List Int) (but : Nat) : Nat → List Int
 | 0 => []
 | n + 1 => if n = but then othersN xs but n else othersN xs but n ++ [rd xs n]
end Go.Proofs.Ytjnkkfdlcbcelaa.Hw
end
section
namespace Go.Proofs.Ytjnkkfdlcbcelaa.E
open Go.RowKit Go.Proofs.Ytjnkkfdlcbcelaa.Pr Go.Proofs.Ytjnkkfdlcbcelaa.Hw Go.Proofs.YtjnkkfdlcbcelaaW.PrintWords Go.Proofs.YtjnkkfdlcbcelaaW.PrintLast Go.Proofs.YtjnkkfdlcbcelaaW.PrintMore
theorem w64' {n : Int} (h0 : -9223372036854775808 ≤ n) (h1 : n < 9223372036854775808) : wrap64 n = n := by unfold wrap64;omega
theorem rd_nat' (l : List Int) (i : Nat) : rd l (i : Int) = l.getD i 0 := by unfold rd;rw [Int.toNat_natCast]
def trimL : List Int → List Int
 | [] => []
 | x :: l => match trimL l with
  | [] => if x = 0 then [] else [x]
  | y :: t => x :: y :: t
theorem trimL_cons (x : Int) (l : List Int) : trimL (x :: l) = if trimL l = [] then (if x = 0 then [] else [x]) else x :: trimL l := by
 rw [trimL]
 split
 ·rename_i h;rw [h,if_pos rfl]
 ·rename_i y t h;rw [h,if_neg (by simp)]
theorem trimL_length (l : List Int) : (trimL l).length ≤ l.length := by
 induction l with
 | nil => simp [trimL]
 | cons x l ih =>
  rw [trimL_cons]
  split
  ·split <;> simp
  ·simp only [List.length_cons];omega
theorem trimL_take (l : List Int) : l.take (trimL l).length = trimL l := by
 induction l with
 | nil => simp [trimL]
 | cons x l ih =>
  rw [trimL_cons]
  split
  ·split <;> simp
  ·simp only [List.length_cons,List.take_succ_cons,ih]
theorem trimL_getD (l : List Int) (i : Nat) : (trimL l).getD i 0 = l.getD i 0 := by
 induction l generalizing i with
 | nil => simp [trimL]
 | cons x l ih =>
  rw [trimL_cons]
  split
  ·rename_i h
   have hz : ∀ j,l.getD j 0 = 0 := fun j => by rw [← ih j,h];simp
   split
   ·rename_i h0
    cases i with
    | zero => simp [h0]
    | succ i => rw [List.getD_cons_succ,hz];simp
   ·cases i with
    | zero => simp
    | succ i => rw [List.getD_cons_succ,List.getD_cons_succ,hz];simp
  ·cases i with
   | zero => simp
   | succ i => rw [List.getD_cons_succ,List.getD_cons_succ];exact ih i
theorem trimL_last (l : List Int) (h : trimL l ≠ []) : (trimL l).getD ((trimL l).length - 1) 0 ≠ 0 := by
 induction l with
 | nil => exact absurd rfl h
 | cons x l ih =>
  rw [trimL_cons] at h ⊢
  by_cases hl : trimL l = []
  ·rw [if_pos hl] at h ⊢
   by_cases h0 : x = 0
   ·rw [if_pos h0] at h;exact absurd rfl h
   ·rw [if_neg h0];simpa using h0
  ·rw [if_neg hl]
   have hp : 0 < (trimL l).length := List.length_pos_iff.2 hl
   rw [List.length_cons,show (trimL l).length + 1 - 1 = (trimL l).length - 1 + 1 from by omega,List.getD_cons_succ]
   exact ih hl
theorem trimL_nil_iff (l : List Int) : trimL l = [] ↔ ∀ i,l.getD i 0 = 0 := by
 constructor
 ·intro h i;rw [← trimL_getD,h];simp
 ·intro h
  refine Classical.byContradiction fun hn => trimL_last l hn ?_
  rw [trimL_getD];exact h _
theorem trimL_mem {l : List Int} {x : Int} (h : x ∈ trimL l) : x ∈ l := by
 rw [← trimL_take] at h;exact List.mem_of_mem_take h
theorem trimL_ext {l m : List Int} (h : ∀ i,l.getD i 0 = m.getD i 0) : trimL l = trimL m := by
 have hlen : ∀ {a b : List Int},(∀ i,a.getD i 0 = b.getD i 0) → (trimL a).length ≤ (trimL b).length := by
  intro a b hab
  by_cases ha : trimL a = []
  ·rw [ha];simp
  ·have h1 := trimL_last a ha
   have hp : 0 < (trimL a).length := List.length_pos_iff.2 ha
   rw [trimL_getD,hab,← trimL_getD b] at h1
   refine Nat.le_of_not_lt fun hlt => h1 ?_
   rw [List.getD_eq_getElem?_getD,List.getElem?_eq_none (by omega)];rfl
 refine List.ext_getElem? fun i => ?_
 have hl : (trimL l).length = (trimL m).length := Nat.le_antisymm (hlen h) (hlen fun i => (h i).symm)
 by_cases hi : i < (trimL l).length
 ·have e1 := trimL_getD l i
  have e2 := trimL_getD m i
  rw [List.getD_eq_getElem?_getD,List.getElem?_eq_getElem hi] at e1
  rw [List.getD_eq_getElem?_getD,List.getElem?_eq_getElem (by omega)] at e2
  rw [List.getElem?_eq_getElem hi,List.getElem?_eq_getElem (by omega)]
  simp only [Option.getD_some] at e1 e2
  rw [e1,e2,h i]
 ·rw [List.getElem?_eq_none (by omega),List.getElem?_eq_none (by omega)]
theorem trimL_trimL (l : List Int) : trimL (trimL l) = trimL l := trimL_ext (trimL_getD l)
theorem degree_l0 (l : List Int) (hl : l.length ≤ 1099511627776) : ∀ (m : Nat),m ≤ l.length → (∀ j,m ≤ j → l.getD j 0 = 0) → Ev (fun k => poly_Degree.l0 k l ((m : Int) - 1)) (((trimL l).length : Int) - 1) := by
 intro m
 induction m with
 | zero =>
  intro _ hz
  have : trimL l = [] := (trimL_nil_iff l).2 fun i => hz i (Nat.zero_le _)
  refine Ev.of (fun k => (poly_Degree.mono_l k) _ _) (k := 1) ?_
  simp only [poly_Degree.l0]
  rw [if_neg (by omega),this]
  rfl
 | succ m ih =>
  intro hm hz
  by_cases h0 : l.getD m 0 = 0
  ·refine Ev.step (fun k => ?_) (ih (by omega) (fun j hj => by
    by_cases e : j = m
    ·rw [e];exact h0
    ·exact hz j (by omega)))
   simp only [poly_Degree.l0]
   rw [show ((m + 1 : Nat) : Int) - 1 = (m : Int) from by omega,if_pos (by omega),if_pos (by omega),if_pos (by omega),rd_nat',if_pos h0,w64' (by omega) (by omega)]
  ·refine Ev.of (fun k => (poly_Degree.mono_l k) _ _) (k := 1) ?_
   simp only [poly_Degree.l0]
   rw [show ((m + 1 : Nat) : Int) - 1 = (m : Int) from by omega,if_pos (by omega),if_pos (by omega),if_pos (by omega),rd_nat',if_neg h0]
   have h1 : (trimL l).length = m + 1 := by
    have hne : trimL l ≠ [] := fun e => h0 ((trimL_nil_iff l).1 e m)
    have hp : 0 < (trimL l).length := List.length_pos_iff.2 hne
    have h2 := trimL_last l hne
    rw [trimL_getD] at h2
    have h3 : (trimL l).length - 1 < m + 1 := Nat.lt_of_not_le fun h => h2 (hz _ h)
    have h4 : m < (trimL l).length := Nat.lt_of_not_le fun h => h0 (by rw [← trimL_getD,List.getD_eq_getElem?_getD,List.getElem?_eq_none h];rfl)
    omega
   rw [h1,show ((m + 1 : Nat) : Int) - 1 = (m : Int) from by omega]
theorem degree_ev (l : List Int) (hl : l.length ≤ 1099511627776) : Ev (fun k => poly_Degree.f k l) (((trimL l).length : Int) - 1) := by
 refine (degree_l0 l hl l.length (Nat.le_refl _) (fun j hj => by rw [List.getD_eq_getElem?_getD,List.getElem?_eq_none hj];rfl)).congr fun k => ?_
 unfold poly_Degree.f
 rw [w64' (by omega) (by omega)]
theorem trim_ev (l : List Int) (hl : l.length ≤ 1099511627776) : Ev (fun k => poly_Trim.f k l) (trimL l) := by
 have h1 := trimL_length l
 refine Ev.bind (degree_ev l hl) ((Ev.now (trimL l)).congr fun k => ?_)
 have e : wrap64 ((((trimL l).length : Int) - 1) + 1) = ((trimL l).length : Int) := by rw [w64' (by omega) (by omega)];omega
 rw [e,if_pos (by omega),if_pos (by omega),if_pos (by simp;omega),Int.toNat_natCast,trimL_take]
 rfl
theorem set_next (l : List Int) (f : Int → Int) (i : Nat) (hi : i < l.length) :
  ((l.take i).map f ++ List.replicate (l.length - i) 0).set i (f (l.getD i 0)) = (l.take (i + 1)).map f ++ List.replicate (l.length - (i + 1)) 0 := by
 have h1 : (l.take i).length = i := by rw [List.length_take];omega
 rw [List.set_append_right _ _ (by simp;omega),List.length_map,h1,Nat.sub_self,show l.length - i = (l.length - (i + 1)) + 1 from by omega,List.replicate_succ,List.set_cons_zero]
 rw [List.take_succ_eq_append_getElem hi,List.map_append,List.append_assoc,List.getD_eq_getElem?_getD,List.getElem?_eq_getElem hi]
 rfl
theorem scale_l0 {p : Int} (hp : Supp p) {kk : Int} (hk : Res p kk) (l : List Int) (hl : ∀ x ∈ l,Res p x) (hll : l.length ≤ 1099511627776) : ∀ (d i : Nat),i + d = l.length →
  Ev (fun k => poly_Scale.l0 k p kk ((l.take i).map (fun v => kk * v % p) ++ List.replicate (l.length - i) 0) l (l.length : Int) (i : Int)) (trimL (l.map fun v => kk * v % p)) := by
 intro d
 induction d with
 | zero =>
  intro i hi
  have : i = l.length := by omega
  subst this
  rw [List.take_length,Nat.sub_self,List.replicate_zero,List.append_nil]
  refine Ev.step (f := fun k => (poly_Trim.f k (l.map fun v => kk * v % p)).bind fun t132 => some t132) (fun k => ?_) (Ev.bind (trim_ev _ (by rw [List.length_map];exact hll)) (Ev.now _))
  simp only [poly_Scale.l0]
  rw [if_neg (by omega)]
 | succ d ih =>
  intro i hi
  have hm := mul_ev hp hk (show Res p (l.getD i 0) from by rw [List.getD_eq_getElem?_getD,List.getElem?_eq_getElem (by omega)];exact hl _ (List.getElem_mem _))
  have h1 := ih (i + 1) (by omega)
  rw [← set_next l (fun v => kk * v % p) i (by omega)] at h1
  refine Ev.step (f := fun k => (field_Mul.f k p kk (l.getD i 0)).bind fun t => poly_Scale.l0 k p kk (((l.take i).map (fun v => kk * v % p) ++ List.replicate (l.length - i) 0).set i t) l (l.length : Int) ((i + 1 : Nat) : Int)) (fun k => ?_) (Ev.bind hm h1)
  simp only [poly_Scale.l0]
  have hlen : ((l.take i).map (fun v => kk * v % p) ++ List.replicate (l.length - i) (0 : Int)).length = l.length := by simp;omega
  rw [if_pos (by omega),if_pos (by omega),if_pos (by omega),rd_nat',w64' (by omega) (by omega),hlen]
  refine congrArg _ (funext fun t => ?_)
  rw [if_pos (by omega),Int.toNat_natCast]
  rfl
theorem scale_ev {p : Int} (hp : Supp p) {kk : Int} (hk : Res p kk) (l : List Int) (hl : ∀ x ∈ l,Res p x) (hll : l.length ≤ 1099511627776) : Ev (fun k => poly_Scale.f k p kk l) (trimL (l.map fun v => kk * v % p)) := by
 have h := scale_l0 hp hk l hl hll l.length 0 (by omega)
 refine h.congr fun k => ?_
 unfold poly_Scale.f
 rw [if_pos (by omega),Int.toNat_natCast,if_pos (by omega)]
 simp
def evI (p x : Int) : List Int → Int
 | [] => 0
 | c :: f => (evI p x f * x % p + c) % p
theorem evI_res {p : Int} (hp : Supp p) (x : Int) : ∀ l,Res p (evI p x l)
 | [] => by have := hp.bd;exact ⟨Int.le_refl 0,by show (0 : Int) < p;omega⟩
 | c :: l => Res.mod hp _
end Go.Proofs.Ytjnkkfdlcbcelaa.E
end
section
namespace Go.Proofs.Ytjnkkfdlcbcelaa.Hw
open Go.RowKit Go.Proofs.Ytjnkkfdlcbcelaa.Pr Go.Proofs.YtjnkkfdlcbcelaaW.PrintWords Go.Proofs.YtjnkkfdlcbcelaaW.PrintLast Go.Proofs.YtjnkkfdlcbcelaaW.PrintMore Go.Proofs.Ytjnkkfdlcbcelaa.E
structure PolI (wr : World) (bp bf bd bx : Nat) (p X Y : Int) (s : List Int × Int) (w : World) : Prop where
 hp : Box w bp p
 hf : ∃ A c,w.heap[bf]? = some (.cells #[.slice A s.1.length c] 41 (0,0)) ∧ Kd.R (Kd.int .u64) 22 w wr.heap.size (fun k => k ≠ bd) (.slice A s.1.length c) s.1
 hd : Box w bd s.2
 hx : w.heap[bx]? = some (.cells #[.int .u64 X,.int .u64 Y] 49 (0,0))
 r1 : ∀ x ∈ s.1,Res p x
 r2 : Res p s.2
 below : Below wr.heap.size wr w
def polStep (p X : Int) (s : List Int × Int) (o : Int) : List Int × Int := (trimL (mulsL p s.1 [-o % p,1] s.1.length),s.2 * ((X - o) % p) % p)
theorem cell_alloc_of {w : World} {n : Nat} {a : Addr} {v : Value} (h : w.cell? a = some v) (o : Obj) : ((w.drewN n).alloc o).cell? a = some v := (World.cell?_alloc_lt _ _ _ (World.block_lt_of_cell? w _ h)).trans h
theorem pol_keep {w w5 : World} {m b : Nat} {o o2 : Obj} (hb : Below (w.heap.size + 1) ((w.drewN m).alloc o) w5) (h : w.heap[b]? = some o2) : w5.heap[b]? = some o2 := by
 have hlt := blk_lt h
 rw [hb.block b (by omega)]
 exact blk_alloc (blk_drewN h m) o
set_option maxHeartbeats 2000000 in
set_option maxRecDepth 100000 in
theorem polc_calls {p : Int} (hp : Supp p) {X Y o : Int} (hX : Res p X) (ho : Res p o) (bp bf bd bx : Nat) (wr w : World) (s : List Int × Int) (h : PolI wr bp bf bd bx p X Y s w) (hl : s.1.length ≤ 1000000)
  (nf : wr.heap.size ≤ bf) (ndd : wr.heap.size ≤ bd) (n1 : bp ≠ bf) (n2 : bp ≠ bd) (n3 : bf ≠ bd) (n4 : bx ≠ bf) (n5 : bx ≠ bd) :
  Calls Try.prog 54 #[.int .u64 o,.pointer (some ⟨bp,0,none⟩),.pointer (some ⟨bf,0,none⟩),.pointer (some ⟨bd,0,none⟩),.pointer (some ⟨bx,0,none⟩)] w
   fun e w' => e = .returned (.tuple #[]) ∧ Aside0 (PolI wr bp bf bd bx p X Y (polStep p X s o) w') := by
 obtain ⟨f,d⟩ := s
 simp only at hl
 obtain ⟨A,c,hf,hO⟩ := h.hf
 simp only at hf hO
 have c1 := h.hp.cell
 have c2 : w.cell? ⟨bf,0,none⟩ = some (.slice A f.length c) := blk_cell hf 0
 have hneg := am (neg_eq hp ho)
 have HI := am h
 have HF := am hf
 have HO := am hO
 obtain ⟨o',ho'⟩ : ∃ y,y = -o % p := ⟨_,rfl⟩
 rw [← ho'] at hneg
 have HO' := am ho'
 have hor : Res p o' := by rw [HO'.out];exact Res.mod hp _
 have hb := hp.bd
 have hl2 : ∀ x ∈ [o',1],Res p x := by
  intro x hx
  simp only [List.mem_cons,List.not_mem_nil,or_false] at hx
  rcases hx with rfl|rfl
  ·exact hor
  ·exact ⟨by omega,by omega⟩
 obtain ⟨kt,hkt⟩ := (trim_ev (mulsL p f [o',1] f.length) (by have := mulsL_length p f [o',1] f.length;simp at this;omega)).rounds
 have hmul : ∀ m : Nat,Calls Try.prog 55 #[.int .u64 p,.slice A f.length c,.slice (some ⟨w.heap.size,0,none⟩) 2 2] ((w.drewN m).alloc (.cells #[.int .u64 o',.int .u64 1] 22)) fun e w' => ∃ v0_ : Value,e = .returned v0_ ∧ Kd.R (Kd.int .u64) 22 w' (w.heap.size + 1) (fun _ => True) v0_ (trimL (mulsL p f [o',1] f.length)) ∧ Below (w.heap.size + 1) ((w.drewN m).alloc (.cells #[.int .u64 o',.int .u64 1] 22)) w' := by
  intro m
  obtain ⟨A',c',e1,hc1,hC1⟩ := Kd.R_reads hO
  cases e1
  have hC2 := Kd.C_alloc (Kd.C_drewN hC1 m) (.cells #[.int .u64 o',.int .u64 1] 22)
  obtain ⟨A2,c2,e2,hc2,hC3⟩ := Kd.R_reads (R_made (ok := fun _ => True) (own_lit (w.drewN m) w.heap.size 22 .u64 [o',1] (Nat.le_refl _) (by simp)) (fun _ _ => trivial))
  cases e2
  have hm := poly_Mul.walks p hp A c f (some ⟨w.heap.size,0,none⟩) 2 [o',1] h.r1 hl2 (by omega) (by simp) ((w.drewN m).alloc (.cells #[.int .u64 o',.int .u64 1] 22)) hC2 hc1 hC3 (by simp) _ kt hkt
  rw [show ((w.drewN m).alloc (.cells #[.int .u64 o',.int .u64 1] 22)).heap.size = w.heap.size + 1 from Array.size_push _] at hm
  exact hm
 have HMul := am hmul
 clear h hf hO ho' hl2 hkt hmul
 go_enter Try.func54,Try.ntmps54
 go_wp2
 refine start_ (n := 8) (S := (fun w' => w'.cell? ⟨bp,0,none⟩ = some (.int .u64 p) ∧ w'.cell? ⟨bf,0,none⟩ = some (.slice A f.length c))) (ds := [7]) (bz 8 0) (by kernel_rfl) rfl rfl ⟨c1,c2⟩ (fun hHeld => ?_)
 refine tu 0 6 (bz 8 1) hHeld ?_
 refine tu 1 7 (bz 8 3) hHeld ?_
 refine tu 2 8 (bz 8 7) hHeld ?_
 refine pu 3 9 (bz 8 15) ?_
 refine one_ (i := 4) (N := some 10) (bz 8 31) rfl rfl (by kernel_rfl) (by decide) (fun K hK => ?_)
 refine goes_ Try.func42 (by kernel_rfl) rfl #[.int .u64 p,.int .u64 o] (by rfl) rfl rfl (by (try simp only [List.map_toArray,List.map_cons,List.map_nil]);first|done|rfl) ?_
 refine (field_Neg.calls p o o' _ hneg.out).mono ?_
 rintro e w' ⟨rfl,⟨nd,rfl⟩⟩
 refine ⟨_,rfl,?_⟩
 refine hK.out _ _ ⟨c1,c2⟩ (fun hHeld => ?_)
 clear hK K
 refine nm 10 ?_
 refine one_ (i := 5) (N := some 11) (bz 8 63) rfl rfl (by kernel_rfl) (by decide) (fun K hK => ?_)
 refine value_ (v := .slice (some ⟨w.heap.size,0,none⟩) 2 2) (w1 := (w.drewN (1 + nd)).alloc (.cells #[.int .u64 o',.int .u64 1] 22)) (by rfl) rfl (by go_simp) ?_
 refine hK.out _ _ ⟨cell_alloc_of c1 _,cell_alloc_of c2 _⟩ (fun hHeld => ?_)
 clear hK K
 refine nm 11 ?_
 refine one_ (i := 6) (N := some 12) (bz 8 127) rfl rfl (by kernel_rfl) (by decide) (fun K hK => ?_)
 refine goes_ Try.func55 (by kernel_rfl) rfl #[.int .u64 p,.slice A f.length c,.slice (some ⟨w.heap.size,0,none⟩) 2 2] (by rfl) rfl rfl (by (try simp only [List.map_toArray,List.map_cons,List.map_nil]);first|done|rfl) ?_
 refine (HMul.out (1 + nd)).mono ?_
 rintro e w5 ⟨v0,rfl,hv0,hb0⟩
 obtain ⟨A5,q5,rfl⟩ := Kd.R_slice hv0
 have hbf5 := am (pol_keep hb0 HF.out)
 have hc5 := blk_cell hbf5.out 0
 simp only [List.getElem?_toArray,List.getElem?_cons_zero] at hc5
 have hf5 := blk_frozen hbf5.out 0
 have HBp5 := am (show Box w5 bp p from pol_keep hb0 HI.out.hp)
 have HBd5 := am (show Box w5 bd d from pol_keep hb0 HI.out.hd)
 have HBx5 := am (pol_keep hb0 HI.out.hx)
 have hsz := am (show w.heap.size + 1 ≤ w5.heap.size from by have := hb0.size;rwa [show ((w.drewN (1 + nd)).alloc (Obj.cells #[Value.int IntKind.u64 o',Value.int IntKind.u64 1] 22)).heap.size = w.heap.size + 1 from Array.size_push _] at this)
 have HBel5 := am (show Below wr.heap.size wr w5 from (below_then (below_alloc (pw_below_drewN HI.out.below (1 + nd)) (Obj.cells #[Value.int IntKind.u64 o',Value.int IntKind.u64 1] 22)) (below_size (below_alloc (pw_below_drewN HI.out.below (1 + nd)) _)) (by rw [show ((w.drewN (1 + nd)).alloc (Obj.cells #[Value.int IntKind.u64 o',Value.int IntKind.u64 1] 22)).heap.size = w.heap.size + 1 from Array.size_push _];exact hb0)))
 have hv5 := am hv0
 clear hv0 hb0
 refine ⟨_,rfl,?_⟩
 refine hK.out _ _ ⟨HBp5.out.cell,hc5⟩ (fun hHeld => ?_)
 clear hK K
 refine nm 12 ?_
 refine last_ (i := 7) (N := none) (bz 8 255) rfl rfl (by kernel_rfl) (by decide) (fun K hK => ?_)
 refine skip_ (w1 := ?_) (by rfl) rfl ?_ ?_
 rotate_left
 ·go_simp
  rfl
 refine hK.out _ _ ?_
 clear hK K
 refine done_ (by kernel_rfl) ?_
 try go_wp2
 clear hc5 hf5 c1 c2
 obtain ⟨f',hf'⟩ : ∃ y,y = trimL (mulsL p f [o',1] f.length) := ⟨_,rfl⟩
 rw [← hf'] at hv5 ⊢
 have HF' := am hf'
 clear hf'
 obtain ⟨W,hW⟩ : ∃ W,W = w5.setCell ⟨bf,0,none⟩ (.slice A5 f'.length q5) := ⟨_,rfl⟩
 rw [← hW]
 have d1 : W.cell? ⟨bp,0,none⟩ = some (.int .u64 p) := by rw [hW];exact (HBp5.out.far n1 _).cell
 have d2 : W.cell? ⟨bd,0,none⟩ = some (.int .u64 d) := by rw [hW];exact (HBd5.out.far (Ne.symm n3) _).cell
 have d3 : W.cell? ⟨bx,0,none⟩ = some (.int .u64 X) := by rw [hW];exact blk_cell (blk_far (p := ⟨bf,0,none⟩) HBx5.out n4 _) 0
 have g2 : W.frozen? ⟨bd,0,none⟩ = false := by rw [hW];exact (HBd5.out.far (Ne.symm n3) _).frozen
 have HW := am hW
 obtain ⟨k3,hk3⟩ := (sub_ev hp hX ho).rounds
 obtain ⟨k4,hk4⟩ := (mul_ev hp HI.out.r2 (Res.mod hp (X - o))).rounds
 have HK3 := am hk3
 have HK4 := am hk4
 clear hW hk3 hk4
 refine wp_region_quiet_tail_drawn 8 (by kernel_rfl) (by kernel_rfl) ?_
 simp only [List.take_succ_cons,List.take_zero,List.drop_succ_cons,List.drop_zero]
 repeat (quiet_step (first|(go_at_call 25;refine Calls.quiet_of ((field_Sub.calls k3 _ _ _ ((X - o) % p) _ HK3.out).mono fun e w' h => ⟨h.1,h.2.out⟩))|(go_at_call 27;refine Calls.quiet_of ((field_Mul.calls k4 _ _ _ (d * ((X - o) % p) % p) _ HK4.out).mono fun e w' h => ⟨h.1,h.2.out⟩))))
 refine wpQuiet_nil ?_
 rintro _ ⟨nr,rfl⟩
 go_wp2
 go_end0
 have ld := blk_lt HI.out.hd
 have lf := blk_lt HF.out
 refine ⟨rfl,⟨?_⟩⟩
 rw [HW.out]
 refine ⟨?_,⟨A5,q5,?_,?_⟩,?_,?_,?_,Res.mod hp _,?_⟩
 ·exact ((HBp5.out.far n1 _).drewN nr).far n2 _
 ·show _ = some (Obj.cells #[Value.slice A5 (trimL (mulsL p f [-o % p,1] f.length)).length q5] _ _)
  rw [← HO'.out,← HF'.out]
  exact blk_far (p := ⟨bd,0,none⟩) (blk_drewN (blk_put hbf5.out 0 _ rfl) nr) n3 _
 ·show Kd.R _ _ _ _ _ (Value.slice A5 (trimL (mulsL p f [-o % p,1] f.length)).length q5) (trimL (mulsL p f [-o % p,1] f.length))
  rw [← HO'.out,← HF'.out]
  have hb5 : wr.heap.size ≤ w.heap.size + 1 := by have := HI.out.below.size;omega
  have hR := Kd.R_lower (Kd.R_mono (Kd.R_bound hv5.out) (ok' := fun k => k ≠ bd ∧ k ≠ bf) (fun k hk => ⟨by have := hk.2.1;omega,by have := hk.2.1;omega⟩)) hb5
  exact Kd.R_mono (Kd.R_far (Kd.R_drewN (Kd.R_far hR (p := ⟨bf,0,none⟩) (fun k hk => hk.2) _) nr) (p := ⟨bd,0,none⟩) (fun k hk => hk.1) _) (fun k hk => hk.1)
 ·exact ((HBd5.out.far (Ne.symm n3) _).drewN nr).put _
 ·exact blk_far (p := ⟨bd,0,none⟩) (blk_drewN (blk_far (p := ⟨bf,0,none⟩) HBx5.out n4 _) nr) n5 _
 ·exact fun x hx => mulsL_res hp _ _ _ x (trimL_mem hx)
 ·exact Below.setCell (pw_below_drewN (Below.setCell HBel5.out (p := ⟨bf,0,none⟩) nf _) nr) (p := ⟨bd,0,none⟩) ndd _
set_option maxHeartbeats 1000000 in
theorem others_pol {σ : Type} (I : σ → World → Prop) (step : σ → Int → σ) (bp bf bd bx : Nat) (A : Option Addr) (c : Nat) (xs : List Int) (but : Nat) (hb : but < 1099511627776) (hl : xs.length ≤ 1099511627776)
  (hread : ∀ s w,I s w → Kd.C (Kd.int .u64) w A xs.length xs)
  (s : σ) (hcall : ∀ w i,i < xs.length → i ≠ but → I ((othersN xs but i).foldl step s) w → Calls Try.prog 54 #[.int .u64 (rd xs i),.pointer (some ⟨bp,0,none⟩),.pointer (some ⟨bf,0,none⟩),.pointer (some ⟨bd,0,none⟩),.pointer (some ⟨bx,0,none⟩)] w fun e w' => e = .returned (.tuple #[]) ∧ Aside0 (I (step ((othersN xs but i).foldl step s) (rd xs i)) w'))
  (w : World) (hI : I s w) :
  Calls Try.prog 53 #[.slice A xs.length c,.int .i64 (but : Int),.func (.func 54) #[] #[.pointer (some ⟨bp,0,none⟩),.pointer (some ⟨bf,0,none⟩),.pointer (some ⟨bd,0,none⟩),.pointer (some ⟨bx,0,none⟩)]] w
   fun e w' => e = .returned (.tuple #[]) ∧ Aside0 (I ((othersN xs but xs.length).foldl step s) w') := by
 have HI := am hI
 have HR := am hread
 have HC := am hcall
 clear hI hread hcall
 go_enter Try.func53,Try.ntmps53
 go_wp2
 go_loopg [10] xs.length (fun kq v10 w' => ∃ (n : Nat),v10 = .int .i64 n ∧ Aside0 (kq + n = xs.length) ∧ Aside0 (I ((othersN xs but n).foldl step s) w'))
 case atStart => exact ⟨0,rfl,⟨rfl⟩,HI⟩
 case round =>
  obtain ⟨n,rfl,HK,HS⟩ := hrel
  clear HI
  by_cases hlt : n < xs.length
  ·have p1 : ((0 : Int) ≤ (n : Int)) = True := eq_true (by omega)
   have q1 : ((n : Int) < (xs.length : Int)) = True := eq_true (by omega)
   obtain ⟨ad,e1,hx⟩ := Kd.at_int (HR.out _ _ HS.out) (n : Int) (by omega) (by omega)
   cases e1
   rw [Int.toNat_natCast] at hx
   by_cases hnb : n = but
   ·have t1 : ((n : Int) != (but : Int)) = false := by rw [hnb];simp
    have HNB := am hnb
    clear hnb
    go_wp2
    go_roundg (xs.length - (n + 1))
    case measure => have := HK.out;omega
    case rel =>
     refine ⟨n + 1,by go_num,⟨by omega⟩,⟨?_⟩⟩
     rw [othersN,if_pos HNB.out];exact HS.out
   ·have t1 : ((n : Int) != (but : Int)) = true := by rw [bne_iff_ne];omega
    have hc := am (HC.out _ n hlt hnb HS.out)
    go_wp2_with (first|(go_at_call 54;(with_reducible refine hc.out.mono ?_);rintro e w' ⟨rfl,HS2⟩))
    go_roundg (xs.length - (n + 1))
    case measure => have := HK.out;omega
    case rel =>
     refine ⟨n + 1,by go_num,⟨by omega⟩,⟨?_⟩⟩
     rw [othersN,if_neg hnb,List.foldl_append];exact HS2.out
  ·have hd : decide ((n : Int) < (xs.length : Int)) = false := decide_eq_false (by omega)
   have hn : n = xs.length := by have := HK.out;omega
   subst hn
   go_wp2
   go_end0
   exact ⟨rfl,HS⟩
def lagStep (p a x : Int) (s : Int × Int) (o : Int) : Int × Int := (s.1 * ((a - o) % p) % p,s.2 * ((x - o) % p) % p)
def lagS (p a : Int) (xs : List Int) (i : Nat) : Int × Int := (othersN xs i xs.length).foldl (lagStep p a (rd xs i)) (1,1)
theorem lag_fold {p : Int} (hp : Supp p) {a x : Int} (hx : Res p x) : ∀ (l : List Int) (s : Int × Int),(∀ o ∈ l,Res p o) → Res p s.1 → Res p s.2 →
  Res p (l.foldl (lagStep p a x) s).1 ∧ Res p (l.foldl (lagStep p a x) s).2 ∧ ((∀ o ∈ l,x ≠ o) → s.2 ≠ 0 → (l.foldl (lagStep p a x) s).2 ≠ 0)
 | [],s,_,h1,h2 => ⟨h1,h2,fun _ h => h⟩
 | o :: l,s,hl,h1,h2 => by
  have ih := lag_fold hp (a := a) hx l (lagStep p a x s o) (fun y hy => hl y (List.mem_cons_of_mem _ hy)) (Res.mod hp _) (Res.mod hp _)
  refine ⟨ih.1,ih.2.1,fun hne h0 => ih.2.2 (fun y hy => hne y (List.mem_cons_of_mem _ hy)) ?_⟩
  exact mul_ne' hp h2 h0 (Res.mod hp _) (sub_ne' hp hx (hl o (by simp)) (hne o (by simp)))
theorem othersN_mem {xs : List Int} {i : Nat} : ∀ {n : Nat} {o : Int},o ∈ othersN xs i n → ∃ j,j < n ∧ j ≠ i ∧ o = rd xs j
 | 0,o,h => by cases h
 | n + 1,o,h => by
  unfold othersN at h
  split at h
  ·obtain ⟨j,h1,h2⟩ := othersN_mem h;exact ⟨j,by omega,h2⟩
  ·rcases List.mem_append.1 h with h|h
   ·obtain ⟨j,h1,h2⟩ := othersN_mem h;exact ⟨j,by omega,h2⟩
   ·exact ⟨n,by omega,by assumption,by simpa using h⟩
theorem lagS_ok {p : Int} (hp : Supp p) {a : Int} {xs : List Int} (hx : ∀ x ∈ xs,Res p x) (hn : xs.Nodup) (i : Nat) (hi : i < xs.length) : Res p (lagS p a xs i).1 ∧ Res p (lagS p a xs i).2 ∧ (lagS p a xs i).2 ≠ 0 := by
 have hb := hp.bd
 have h := lag_fold hp (a := a) (rd_res' hx i hi) (othersN xs i xs.length) (1,1) (fun o ho => by
  obtain ⟨j,h1,_,rfl⟩ := othersN_mem ho;exact rd_res' hx j h1) ⟨by omega,by omega⟩ ⟨by omega,by omega⟩
 refine ⟨h.1,h.2.1,h.2.2 (fun o ho => ?_) (by decide)⟩
 obtain ⟨j,h1,h2,rfl⟩ := othersN_mem ho
 rw [rd_nat,rd_nat,getD_in _ _ hi,getD_in _ _ h1]
 intro e
 rw [List.nodup_iff_pairwise_ne,List.pairwise_iff_getElem] at hn
 rcases Nat.lt_trichotomy i j with h3|h3|h3
 ·exact hn i j hi h1 h3 e
 ·exact h2 h3.symm
 ·exact hn j i h1 hi h3 e.symm
structure LagI (wr : World) (bp ba : Nat) (p a x : Int) (s : Int × Int) (w : World) : Prop where
 hp : Box w bp p
 hn : Box w (wr.heap.size + 1) s.1
 ha : Box w ba a
 hd : Box w (wr.heap.size + 1 + 1) s.2
 hx : Box w wr.heap.size x
 r1 : Res p s.1
 r2 : Res p s.2
 below : Below wr.heap.size wr w
def addP (p : Int) (a b : List Int) : List Int := putsL p (putsL p [] a a.length) b b.length
def xsOf (pts : List S49) : List Int := pts.map fun x => x.f0
def polS (p : Int) (pts : List S49) (i : Nat) : List Int × Int := (othersN (xsOf pts) i pts.length).foldl (polStep p (rd_T49 pts i).f0) ([1],1)
def polTerm (p : Int) (pts : List S49) (i : Nat) : List Int := trimL ((polS p pts i).1.map fun v => ((rd_T49 pts i).f1 * invp p (polS p pts i).2 % p) * v % p)
def polSum (p : Int) (pts : List S49) : Nat → List Int
 | 0 => []
 | n + 1 => trimL (addP p (polSum p pts n) (polTerm p pts n))
def polL (p : Int) (pts : List S49) : List Int := trimL (polSum p pts pts.length)
theorem rdT_nat (pts : List S49) (i : Nat) (h : i < pts.length) : rd_T49 pts (i : Int) = pts[i] := by
 unfold rd_T49;rw [Int.toNat_natCast,List.getD_eq_getElem?_getD,List.getElem?_eq_getElem h];rfl
theorem xsOf_rd (pts : List S49) (i : Nat) (h : i < pts.length) : rd (xsOf pts) (i : Int) = (rd_T49 pts (i : Int)).f0 := by
 rw [rdT_nat _ _ h,rd_nat,getD_in _ _ (by simpa [xsOf] using h)];simp [xsOf]
def PtsOk (p : Int) (pts : List S49) : Prop := ∀ x ∈ pts,Res p x.f0 ∧ Res p x.f1
theorem PtsOk.xs {p : Int} {pts : List S49} (h : PtsOk p pts) : ∀ x ∈ xsOf pts,Res p x := by
 intro x hx
 obtain ⟨y,hy,rfl⟩ := List.mem_map.1 hx
 exact (h y hy).1
theorem PtsOk.at_ {p : Int} {pts : List S49} (h : PtsOk p pts) (i : Nat) (hi : i < pts.length) : Res p (rd_T49 pts (i : Int)).f0 ∧ Res p (rd_T49 pts (i : Int)).f1 := by
 rw [rdT_nat _ _ hi];exact h _ (List.getElem_mem _)
theorem linear_length (p : Int) (f : List Int) (o : Int) : (mulsL p f [o,1] f.length).length ≤ f.length + 2 := mulsL_length p f [o,1] f.length
theorem polFold {p : Int} (hp : Supp p) {X : Int} (hX : Res p X) : ∀ (l : List Int) (s : List Int × Int),(∀ o ∈ l,Res p o) → (∀ x ∈ s.1,Res p x) → Res p s.2 →
  (∀ x ∈ (l.foldl (polStep p X) s).1,Res p x) ∧ Res p (l.foldl (polStep p X) s).2 ∧ (l.foldl (polStep p X) s).1.length ≤ s.1.length + 2 * l.length ∧ ((∀ o ∈ l,X ≠ o) → s.2 ≠ 0 → (l.foldl (polStep p X) s).2 ≠ 0)
 | [],s,_,h1,h2 => ⟨h1,h2,by simp,fun _ h => h⟩
 | o :: l,s,hl,h1,h2 => by
  have ih := polFold hp hX l (polStep p X s o) (fun y hy => hl y (List.mem_cons_of_mem _ hy)) (fun x hx => mulsL_res hp _ _ _ x (trimL_mem hx)) (Res.mod hp _)
  have hlen : (polStep p X s o).1.length ≤ s.1.length + 2 := Nat.le_trans (trimL_length _) (linear_length p s.1 _)
  refine ⟨ih.1,ih.2.1,?_,fun hne h0 => ih.2.2.2 (fun y hy => hne y (List.mem_cons_of_mem _ hy)) ?_⟩
  ·have := ih.2.2.1;simp only [List.foldl_cons,List.length_cons] at *;omega
  ·exact mul_ne' hp h2 h0 (Res.mod hp _) (sub_ne' hp hX (hl o (by simp)) (hne o (by simp)))
theorem xsOf_next (pts : List S49) (n : Nat) (h : n < pts.length) : xsOf (pts.take n) ++ [(rd_T49 pts (n : Int)).f0] = xsOf (pts.take (n + 1)) := by
 rw [rdT_nat _ _ h,List.take_succ_eq_append_getElem h];simp only [xsOf,List.map_append,List.map_cons,List.map_nil]
theorem xsOf_take_length (pts : List S49) (n : Nat) (h : n ≤ pts.length) : (xsOf (pts.take n)).length = n := by simp [xsOf];omega
theorem othersN_length (xs : List Int) (b : Nat) : ∀ n,(othersN xs b n).length ≤ n
 | 0 => Nat.le_refl _
 | n + 1 => by
  have := othersN_length xs b n
  unfold othersN
  split
  ·omega
  ·rw [List.length_append];simp only [List.length_cons,List.length_nil];omega
theorem one_res {p : Int} (hp : Supp p) : ∀ x ∈ [(1 : Int)],Res p x := by
 have := hp.bd
 intro x hx
 simp only [List.mem_cons,List.not_mem_nil,or_false] at hx
 subst hx
 exact ⟨by omega,by omega⟩
theorem alloc_szA (w : World) (o : Obj) : (w.alloc o).heap.size = w.heap.size + 1 := Array.size_push _
theorem pol_inner {p : Int} (hp : Supp p) (A : Option Addr) (c : Nat) (xs : List Int) (X Y : Int) (hX : Res p X) (hx : ∀ x ∈ xs,Res p x) (hl : xs.length ≤ 1000) (bp n : Nat) (hn : n < xs.length) (wr : World) (hr : Kd.C (Kd.int .u64) wr A xs.length xs)
  (hbp : Box wr bp p) :
  Calls Try.prog 53 #[.slice A xs.length c,.int .i64 (n : Int),.func (.func 54) #[] #[.pointer (some ⟨bp,0,none⟩),.pointer (some ⟨wr.heap.size + 1 + 1,0,none⟩),.pointer (some ⟨wr.heap.size + 1 + 1 + 1,0,none⟩),.pointer (some ⟨wr.heap.size,0,none⟩)]]
   ((((wr.alloc (Obj.cells #[Value.int IntKind.u64 X,Value.int IntKind.u64 Y] 49)).alloc (Obj.cells #[Value.int IntKind.u64 1] 22)).alloc (Obj.cells #[Value.slice (some ⟨wr.heap.size + 1,0,none⟩) 1 1] 41)).alloc (Obj.cells #[Value.int IntKind.u64 1] 22))
   fun e w' => e = .returned (.tuple #[]) ∧ Aside0 (PolI wr bp (wr.heap.size + 1 + 1) (wr.heap.size + 1 + 1 + 1) wr.heap.size p X Y ((othersN xs n xs.length).foldl (polStep p X) ([1],1)) w') := by
 have hpb := hp.bd
 have lp := blk_lt hbp
 refine others_pol (PolI wr bp (wr.heap.size + 1 + 1) (wr.heap.size + 1 + 1 + 1) wr.heap.size p X Y) (polStep p X) bp (wr.heap.size + 1 + 1) (wr.heap.size + 1 + 1 + 1) wr.heap.size A c xs n (by omega) (by omega) (fun s w' h => Kd.C_below hr h.below) ([1],1) ?_ _ ?_
 ·intro w' i hi hne h
  have hf := polFold hp hX (othersN xs n i) ([1],1) (fun o ho => by obtain ⟨j,h1,_,rfl⟩ := othersN_mem ho;exact rd_res' hx j (by omega)) (one_res hp) ⟨by omega,by omega⟩
  have ho := othersN_length xs n i
  have hf3 := hf.2.2.1
  simp only [List.length_cons,List.length_nil] at hf3
  exact polc_calls hp hX (rd_res' hx i hi) bp (wr.heap.size + 1 + 1) (wr.heap.size + 1 + 1 + 1) wr.heap.size wr w' _ h (by omega) (by omega) (by omega) (by omega) (by omega) (by omega) (by omega) (by omega)
 ·refine ⟨?_,⟨some ⟨wr.heap.size + 1,0,none⟩,1,?_,?_⟩,?_,?_,one_res hp,⟨by omega,by omega⟩,below_alloc (below_alloc (below_alloc (below_alloc (Below.refl _ _) _) _) _) _⟩
  ·exact blk_alloc (blk_alloc (blk_alloc (blk_alloc hbp _) _) _) _
  ·have h := blk_new ((wr.alloc (Obj.cells #[Value.int IntKind.u64 X,Value.int IntKind.u64 Y] 49)).alloc (Obj.cells #[Value.int IntKind.u64 1] 22)) (Obj.cells #[Value.slice (some ⟨wr.heap.size + 1,0,none⟩) 1 1] 41)
   rw [alloc_szA,alloc_szA] at h
   exact blk_alloc h _
  ·have h := R_made (ok := fun k => k ≠ wr.heap.size + 1 + 1 + 1) (own_lit (wr.alloc (Obj.cells #[Value.int IntKind.u64 X,Value.int IntKind.u64 Y] 49)) wr.heap.size 22 .u64 [1] (by rw [alloc_szA];omega) (by simp)) (by intro b hb;rw [alloc_szA] at hb;have he : wr.heap.size + 1 = b := Option.some.inj hb;exact fun e2 => by omega)
   rw [alloc_szA] at h
   exact Kd.R_alloc (Kd.R_alloc h _) _
  ·have h := blk_new (((wr.alloc (Obj.cells #[Value.int IntKind.u64 X,Value.int IntKind.u64 Y] 49)).alloc (Obj.cells #[Value.int IntKind.u64 1] 22)).alloc (Obj.cells #[Value.slice (some ⟨wr.heap.size + 1,0,none⟩) 1 1] 41)) (Obj.cells #[Value.int IntKind.u64 1] 22)
   rw [alloc_szA,alloc_szA,alloc_szA] at h
   exact h
  ·exact blk_alloc (blk_alloc (blk_alloc (blk_new wr _) _) _) _
theorem addP_length (p : Int) (a b : List Int) : (addP p a b).length = max a.length b.length := by
 unfold addP;rw [putsL_length,putsL_length];simp
theorem addP_res {p : Int} (hp : Supp p) (a b : List Int) : ∀ x ∈ addP p a b,Res p x :=
 putsL_res hp (putsL_res hp (by intro x hx;cases hx) _) _
theorem polTerm_length {p : Int} (hp : Supp p) {pts : List S49} (hx : PtsOk p pts) {n : Nat} (hn : n < pts.length) : (polTerm p pts n).length ≤ 1 + 2 * pts.length := by
 have hpb := hp.bd
 have hxl : (xsOf pts).length = pts.length := by simp [xsOf]
 have h := polFold hp (hx.at_ n hn).1 (othersN (xsOf pts) n pts.length) ([1],1) (fun o ho => by obtain ⟨j,h1,_,rfl⟩ := othersN_mem ho;exact rd_res' hx.xs j (by omega)) (one_res hp) ⟨by omega,by omega⟩
 have hl := othersN_length (xsOf pts) n pts.length
 have h3 := h.2.2.1
 simp only [List.length_cons,List.length_nil] at h3
 refine Nat.le_trans (trimL_length _) ?_
 rw [List.length_map]
 unfold polS
 omega
theorem polS_ok {p : Int} (hp : Supp p) {pts : List S49} (hx : PtsOk p pts) {n : Nat} (hn : n < pts.length) (hnd : (xsOf pts).Nodup) :
  (∀ x ∈ (polS p pts n).1,Res p x) ∧ Res p (polS p pts n).2 ∧ (polS p pts n).1.length ≤ 1 + 2 * pts.length ∧ (polS p pts n).2 ≠ 0 := by
 have hpb := hp.bd
 have hxl : (xsOf pts).length = pts.length := by simp [xsOf]
 have h := polFold hp (hx.at_ n hn).1 (othersN (xsOf pts) n pts.length) ([1],1) (fun o ho => by obtain ⟨j,h1,_,rfl⟩ := othersN_mem ho;exact rd_res' hx.xs j (by omega)) (one_res hp) ⟨by omega,by omega⟩
 have hl := othersN_length (xsOf pts) n pts.length
 refine ⟨h.1,h.2.1,?_,h.2.2.2 (fun o ho => ?_) (by decide)⟩
 ·have := h.2.2.1;simp only [List.length_cons,List.length_nil] at this;unfold polS;omega
 ·obtain ⟨j,h1,h2,rfl⟩ := othersN_mem ho
  rw [← xsOf_rd pts n hn,rd_nat,rd_nat,getD_in _ _ (by omega),getD_in _ _ (by omega)]
  intro e
  rw [List.nodup_iff_pairwise_ne,List.pairwise_iff_getElem] at hnd
  rcases Nat.lt_trichotomy n j with h3|h3|h3
  ·exact hnd n j (by omega) (by omega) h3 e
  ·exact h2 h3.symm
  ·exact hnd j n (by omega) (by omega) h3 e.symm
theorem polSum_ok {p : Int} (hp : Supp p) {pts : List S49} (hx : PtsOk p pts) : ∀ (n : Nat),n ≤ pts.length → (∀ x ∈ polSum p pts n,Res p x) ∧ (polSum p pts n).length ≤ 1 + 2 * pts.length
 | 0,_ => ⟨fun x hx => (by cases hx),by simp [polSum]⟩
 | n + 1,h => by
  have ih := polSum_ok hp hx n (by omega)
  refine ⟨fun x hx => addP_res hp _ _ x (trimL_mem hx),?_⟩
  refine Nat.le_trans (trimL_length _) ?_
  rw [addP_length]
  have := polTerm_length hp hx (n := n) (by omega)
  omega
theorem alloc_size2 (w : World) (o : Obj) : (w.alloc o).heap.size = w.heap.size + 1 := Array.size_push _
set_option maxHeartbeats 2000000 in
set_option maxRecDepth 100000 in
theorem pol_walk {p : Int} (hp : Supp p) (A : Option Addr) (c : Nat) (pts : List S49) (hx : PtsOk p pts) (hl : pts.length ≤ 49) (w : World) (hr : Kd.C k49 w A pts.length pts) (hc : pts.length ≤ c) :
  Calls Try.prog 39 #[.int .u64 p,.slice A pts.length c] w fun e w' => ∃ v0_ : Value,e = .returned (.tuple #[v0_,.int .i64 (if (xsOf pts).Nodup then 0 else 1)]) ∧ Kd.R (Kd.int .u64) 22 w' w.heap.size (fun _ => True) v0_ (if (xsOf pts).Nodup then polL p pts else []) ∧ Below w.heap.size w w' := by
 obtain ⟨xs,hxs⟩ : ∃ y,y = xsOf pts := ⟨_,rfl⟩
 have hxl : xs.length = pts.length := by rw [hxs];simp [xsOf]
 rw [← hxs]
 obtain ⟨r1,hr1⟩ : ∃ y,y = (if xs.Nodup then polL p pts else []) := ⟨_,rfl⟩
 obtain ⟨r2,hr2⟩ : ∃ y : Int,y = (if xs.Nodup then 0 else 1) := ⟨_,rfl⟩
 rw [← hr1,← hr2]
 have HR1 := am hr1
 have HR2 := am hr2
 clear hr1 hr2
 have HXS := am hxs
 have HXL := am hxl
 clear hxs hxl
 have HR := am hr
 have HX := am hx
 have hb1 : Below w.heap.size w (w.alloc (Obj.cells #[Value.int IntKind.u64 p] 22)) := below_alloc (Below.refl _ _) _
 have hbp0 : Box (w.alloc (Obj.cells #[Value.int IntKind.u64 p] 22)) w.heap.size p := blk_new w _
 have HB1 := am hb1
 have HBP := am hbp0
 clear hr hx hb1 hbp0
 go_enter Try.func39,Try.ntmps39
 go_wp2
 go_loopg [6,16] pts.length (fun kq v6 v16 w' => ∃ (n : Nat),v16 = .int .i64 (n : Int) ∧ Aside0 (kq + n = pts.length) ∧ Aside0 (Kd.R (Kd.int .u64) 22 w' w.heap.size (fun k_ => w.heap.size + 1 ≤ k_) v6 (xsOf (pts.take n))) ∧ Aside0 (Box w' w.heap.size p) ∧ Aside0 (Below w.heap.size w w'))
 case atStart => exact ⟨0,rfl,⟨rfl⟩,⟨Kd.R_nil _ _ _ _ _⟩,HBP,HB1⟩
 case round =>
  clear HBP HB1
  obtain ⟨n,rfl,HK,HO,HBx,HB⟩ := hrel
  by_cases hlt : n < pts.length
  ·have p1 : ((0 : Int) ≤ (n : Int)) = True := eq_true (by omega)
   have q1 : ((n : Int) < (pts.length : Int)) = True := eq_true (by omega)
   obtain ⟨ad,e1,hx0,hx1⟩ := at_T49 HR.out (n : Int) (by omega) (by omega)
   cases e1
   replace hx0 := pw_cell_below HB.out hx0
   replace hx1 := pw_cell_below HB.out hx1
   rw [Int.toNat_natCast] at hx0 hx1
   have hlen : (xsOf (pts.take n)).length = n := xsOf_take_length pts n (by omega)
   have hnext := xsOf_next pts n hlt
   obtain ⟨X,hX⟩ : ∃ y,y = (rd_T49 pts (n : Int)).f0 := ⟨_,rfl⟩
   obtain ⟨Y,hY⟩ : ∃ y,y = (rd_T49 pts (n : Int)).f1 := ⟨_,rfl⟩
   rw [← hX] at hx0
   rw [← hY] at hx1
   rw [← hX] at hnext
   have HN := am hnext
   have HL := am hlen
   have hsz := am (show w.heap.size + 1 ≤ wr.heap.size from blk_lt HBx.out)
   have hne : ∀ b,b < w.heap.size + 1 → some b ≠ u6.ownBlock := fun b hb e => by have := HO.out.1 b e.symm;omega
   have HNE := am hne
   clear hnext hlen hX hY hne
   go_wp2_with (first|((with_reducible refine gate_builtin (b := .append) (xs := #[.tmp 20,.tmp 23]) rfl ?_);at_builtin;refine Kd.R_append (Kd.int .u64) (w0 := w) w.heap.size rfl (.tmp 20) (.tmp 23) 41 22 (.int .u64 0) 8 rfl Try.underlying41 info22 rfl (by decide) (by omega) u6 (xsOf (pts.take n)) X [.int .u64 X] (fun k_ => w.heap.size + 1 ≤ k_) (fun _ => False) rfl (by rw [alloc_size2];rfl) rfl (fun _ hk => hk.elim) (fun k hk => Nat.le_trans hsz.out (Nat.le_trans (by rw [alloc_size2];omega) hk)) (Kd.R_alloc HO.out _) (below_alloc HB.out _) (below_size (below_alloc HB.out _)) (by rw [HL.out];omega) ?_;intro v6 w6 ho6 hb6 hg6 ha6;rw [HN.out] at ho6;have HO6 := am ho6;have HB6 := am hb6;have HG6 := am hg6;clear ho6 hb6 hg6 ha6))
   go_roundg (pts.length - (n + 1))
   case measure => have := HK.out;omega
   case rel => exact ⟨n + 1,by go_num,⟨by omega⟩,HO6,⟨blk_grown (blk_alloc HBx.out _) HG6.out (HNE.out _ (by omega))⟩,HB6⟩
  ·have hd : decide ((n : Int) < (pts.length : Int)) = false := decide_eq_false (by omega)
   have hn : n = pts.length := by have := HK.out;omega
   subst hn
   rw [List.take_length] at HO
   rw [← HXS.out] at HO
   obtain ⟨Ax,cx,rfl,hcx,hCx⟩ := Kd.R_reads HO.out
   have HU := am (unlike_big Ax cx xs wr hCx hcx (by rw [HXL.out];exact hl))
   clear hCx hlt hd HK
   by_cases hnd : xs.Nodup
   ·have hd : decide xs.Nodup = true := decide_eq_true hnd
    have hr1 := HR1.out
    have hr2 := HR2.out
    rw [if_pos hnd] at hr1 hr2
    subst hr2
    have HRR := am hr1
    have HND := am hnd
    clear hnd hr1 HR1 HR2
    go_wp2_with (first|(go_at_call 52;(with_reducible refine HU.out.mono ?_);rintro e w1 ⟨rfl,hb3⟩;have HB3 := am (below_step HB.out hb3);have HBx3 := am (show Box w1 w.heap.size p from blk_below HBx.out hb3);have HO3 := am (Kd.R_below HO.out hb3);clear hb3))
    obtain ⟨A3,c3,e3,hc3,hC3⟩ := Kd.R_reads HO3.out
    cases e3
    have HCX := am hC3
    clear hC3 hc3 hd HB HBx HO HU
    go_loopg [9,31] pts.length (fun kq v9 v31 w' => ∃ (n : Nat),v31 = .int .i64 (n : Int) ∧ Aside0 (kq + n = pts.length) ∧ Aside0 (Kd.R (Kd.int .u64) 22 w' w1.heap.size (fun k_ => True) v9 (polSum p pts n)) ∧ Aside0 (Below w1.heap.size w1 w'))
    case atStart => exact ⟨0,rfl,⟨rfl⟩,⟨Kd.R_nil _ _ _ _ _⟩,⟨Below.refl _ _⟩⟩
    case round =>
     obtain ⟨n,rfl,HK,HS,HB⟩ := hrel
     by_cases hlt : n < pts.length
     ·have p1 : ((0 : Int) ≤ (n : Int)) = True := eq_true (by omega)
      have q1 : ((n : Int) < (pts.length : Int)) = True := eq_true (by omega)
      obtain ⟨ad,e1,hx0,hx1⟩ := at_T49 HR.out (n : Int) (by omega) (by omega)
      cases e1
      replace hx0 := pw_cell_below (below_step HB3.out HB.out) hx0
      replace hx1 := pw_cell_below (below_step HB3.out HB.out) hx1
      rw [Int.toNat_natCast] at hx0 hx1
      obtain ⟨hX,hY⟩ := HX.out.at_ n hlt
      have hi := pol_inner hp Ax cx xs (rd_T49 pts (n : Int)).f0 (rd_T49 pts (n : Int)).f1 hX (by rw [HXS.out];exact HX.out.xs) (by rw [HXL.out];omega) w.heap.size n (by rw [HXL.out];exact hlt) wr (Kd.C_below HCX.out HB.out) (blk_below HBx3.out HB.out)
      have hS : (othersN xs n xs.length).foldl (polStep p (rd_T49 pts (n : Int)).f0) ([1],1) = polS p pts n := by rw [HXL.out,HXS.out];rfl
      rw [hS] at hi
      obtain ⟨X,hXX⟩ : ∃ y,y = (rd_T49 pts (n : Int)).f0 := ⟨_,rfl⟩
      obtain ⟨Y,hYY⟩ : ∃ y,y = (rd_T49 pts (n : Int)).f1 := ⟨_,rfl⟩
      obtain ⟨F,hF⟩ : ∃ y,y = (polS p pts n).1 := ⟨_,rfl⟩
      obtain ⟨D,hD⟩ : ∃ y,y = (polS p pts n).2 := ⟨_,rfl⟩
      have hfd : polS p pts n = (F,D) := by rw [hF,hD]
      rw [← hXX] at hx0 hX
      rw [← hYY] at hx1 hY
      rw [hfd,← hXX,← hYY] at hi
      obtain ⟨hr1,hr2,hlen,hD0⟩ := polS_ok hp HX.out hlt (by rw [← HXS.out];exact HND.out)
      rw [← hF] at hr1 hlen
      rw [← hD] at hr2 hD0
      obtain ⟨ko,hko⟩ := (over_ev hp hY hr2 hD0).rounds
      obtain ⟨ks,hks⟩ := (scale_ev hp (Res.mod hp (Y * invp p D)) F hr1 (by omega)).rounds
      have hterm : trimL (F.map fun v => (Y * invp p D % p) * v % p) = polTerm p pts n := by unfold polTerm;rw [← hF,← hD,← hYY]
      rw [hterm] at hks
      have hsum := polSum_ok hp HX.out n (by omega)
      have htl : (polTerm p pts n).length ≤ 1000 := by rw [← hterm];refine Nat.le_trans (trimL_length _) ?_;rw [List.length_map];omega
      have htr : ∀ x ∈ polTerm p pts n,Res p x := by rw [← hterm];intro x hx;obtain ⟨y,_,rfl⟩ := List.mem_map.1 (trimL_mem hx);exact Res.mod hp _
      obtain ⟨ka,hka⟩ := (trim_ev (addP p (polSum p pts n) (polTerm p pts n)) (by have := addP_length p (polSum p pts n) (polTerm p pts n);omega)).rounds
      have HIn := am hi
      have HKO := am hko
      have HKS := am hks
      have HKA := am hka
      have HT := am (And.intro htr htl)
      have HSM := am hsum
      have HF := am hF
      have HD := am hD
      clear hi hko hks hka htr htl hsum hF hD hfd hterm hr1 hr2 hlen hD0 hXX hYY hS hX hY
      go_wp2_with (first
       | (go_at_call 53;(with_reducible refine HIn.out.mono ?_);rintro e w4 ⟨rfl,HI⟩))
      obtain ⟨A9,c9,e9,hc9,hC9⟩ := Kd.R_reads HS.out
      cases e9
      have HC9 := am (Kd.C_below hC9 HI.out.below)
      obtain ⟨Af,cf,hf,hO⟩ := HI.out.hf
      simp only at hf hO
      obtain ⟨Af',cf',ef,hcf,hCf⟩ := Kd.R_reads hO
      cases ef
      have hscale : ∀ m : Nat,Calls Try.prog 57 #[.int .u64 p,.int .u64 (Y * invp p D % p),.slice Af F.length cf] (w4.drew.drewN m) fun e w' => ∃ v0_ : Value,e = .returned v0_ ∧ Kd.R (Kd.int .u64) 22 w' w4.heap.size (fun _ => True) v0_ (polTerm p pts n) ∧ Below w4.heap.size (w4.drew.drewN m) w' :=
       fun m => poly_Scale.calls ks p (Y * invp p D % p) Af cf F (polTerm p pts n) (w4.drew.drewN m) (Kd.C_drewN (show Kd.C (Kd.int .u64) w4.drew Af F.length F from Kd.C_drewN hCf 1) m) hcf HKS.out
      have HSc := am hscale
      have c1 := HI.out.hp.cell
      have c2 := blk_cell HI.out.hx 1
      simp only [List.getElem?_toArray,List.getElem?_cons_zero,List.getElem?_cons_succ] at c2
      have c3 := HI.out.hd.cell
      have c4 := blk_cell hf 0
      simp only [List.getElem?_toArray,List.getElem?_cons_zero] at c4
      clear hf hO hCf hscale hC9
      refine start_ (n := 12) (S := (fun w' => w'.cell? ⟨w.heap.size,0,none⟩ = some (.int .u64 p) ∧ w'.cell? ⟨wr.heap.size,1,none⟩ = some (.int .u64 Y) ∧ w'.cell? ⟨wr.heap.size + 1 + 1 + 1,0,none⟩ = some (.int .u64 D) ∧ w'.cell? ⟨wr.heap.size + 1 + 1,0,none⟩ = some (.slice Af F.length cf))) (ds := []) (bz 12 0) (by kernel_rfl) rfl rfl ⟨c1,c2,c3,c4⟩ (fun hHeld => ?_)
      refine tu 0 41 (bz 12 1) hHeld ?_
      refine pu 1 42 (bz 12 3) ?_
      refine tu 2 43 (bz 12 7) hHeld ?_
      refine tu 3 44 (bz 12 15) hHeld ?_
      refine pu 4 45 (bz 12 31) ?_
      refine tu 5 46 (bz 12 63) hHeld ?_
      refine tu 6 47 (bz 12 127) hHeld ?_
      refine tu 8 49 (bz 12 383) hHeld ?_
      refine one_ (i := 7) (N := some 48) (bz 12 511) rfl rfl (by kernel_rfl) (by decide) (fun K hK => ?_)
      refine goes_ Try.func58 (by kernel_rfl) rfl #[.int .u64 p,.int .u64 Y,.int .u64 D] (by rfl) rfl rfl (by (try simp only [List.map_toArray,List.map_cons,List.map_nil]);first|done|rfl) ?_
      refine (interpolate_over.calls ko p Y D (Y * invp p D % p) _ HKO.out).mono ?_
      rintro e w' ⟨rfl,⟨nd,rfl⟩⟩
      refine ⟨_,rfl,?_⟩
      refine hK.out _ _ ⟨c1,c2,c3,c4⟩ (fun hHeld => ?_)
      clear hK K
      refine nm 48 ?_
      refine one_ (i := 9) (N := some 50) (bz 12 1023) rfl rfl (by kernel_rfl) (by decide) (fun K hK => ?_)
      refine goes_ Try.func57 (by kernel_rfl) rfl #[.int .u64 p,.int .u64 (Y * invp p D % p),.slice Af F.length cf] (by rfl) rfl rfl (by (try simp only [List.map_toArray,List.map_cons,List.map_nil]);first|done|rfl) ?_
      refine (HSc.out nd).mono ?_
      rintro e w5 ⟨v0,rfl,hv0,hb0⟩
      have hsz5 := am (show w4.heap.size ≤ w5.heap.size from hb0.size)
      have hb5 := am (show Below w4.heap.size w4 w5 from below_then (pw_below_drewN (pw_below_drewN (Below.refl w4.heap.size w4) 1) nd) (Nat.le_refl _) hb0)
      obtain ⟨A5,q5,e5,hq5,hC5⟩ := Kd.R_reads hv0
      cases e5
      have HC5 := am hC5
      have HC95 := am (Kd.C_below HC9.out hb5.out)
      have d1 : w5.cell? ⟨w.heap.size,0,none⟩ = some (.int .u64 p) := pw_cell_below hb5.out c1
      have d2 : w5.cell? ⟨wr.heap.size,1,none⟩ = some (.int .u64 Y) := pw_cell_below hb5.out c2
      have d3 : w5.cell? ⟨wr.heap.size + 1 + 1 + 1,0,none⟩ = some (.int .u64 D) := pw_cell_below hb5.out c3
      have d4 : w5.cell? ⟨wr.heap.size + 1 + 1,0,none⟩ = some (.slice Af F.length cf) := pw_cell_below hb5.out c4
      clear hv0 hb0 hC5
      refine ⟨_,rfl,?_⟩
      refine hK.out _ _ ⟨d1,d2,d3,d4⟩ (fun hHeld => ?_)
      clear hK K
      refine nm 50 ?_
      refine one_ (i := 10) (N := some 51) (bz 12 2047) rfl rfl (by kernel_rfl) (by decide) (fun K hK => ?_)
      refine goes_ Try.func56 (by kernel_rfl) rfl #[.int .u64 p,.slice A9 (polSum p pts n).length c9,.slice A5 (polTerm p pts n).length q5] (by rfl) rfl rfl (by (try simp only [List.map_toArray,List.map_cons,List.map_nil]);first|done|rfl) ?_
      refine (poly_Add.walks p hp A9 c9 (polSum p pts n) A5 q5 (polTerm p pts n) HSM.out.1 HT.out.1 (by have := HSM.out.2;omega) (by have := HT.out.2;omega) w5 HC95.out hc9 HC5.out hq5 (polSum p pts (n + 1)) ka HKA.out).mono ?_
      rintro e w6 ⟨v6,rfl,hv6,hb6⟩
      have HV6 := am hv6
      have hb6' := am hb6
      have k1 : w6.cell? ⟨w.heap.size,0,none⟩ = some (.int .u64 p) := pw_cell_below hb6 d1
      have k2 : w6.cell? ⟨wr.heap.size,1,none⟩ = some (.int .u64 Y) := pw_cell_below hb6 d2
      have k3 : w6.cell? ⟨wr.heap.size + 1 + 1 + 1,0,none⟩ = some (.int .u64 D) := pw_cell_below hb6 d3
      have k4 : w6.cell? ⟨wr.heap.size + 1 + 1,0,none⟩ = some (.slice Af F.length cf) := pw_cell_below hb6 d4
      clear hv6 hb6
      refine ⟨_,rfl,?_⟩
      refine hK.out _ _ ⟨k1,k2,k3,k4⟩ (fun hHeld => ?_)
      clear hK K
      refine nm 51 ?_
      refine pu 11 9 (bz 12 4095) ?_
      refine done_ (by kernel_rfl) ?_
      go_wp2
      go_roundg (pts.length - (n + 1))
      case measure => have := HK.out;omega
      case rel =>
       have hbb : Below wr.heap.size wr w6 := below_then (below_then HI.out.below HI.out.below.size hb5.out) (Nat.le_trans HI.out.below.size hsz5.out) hb6'.out
       refine ⟨n + 1,by go_num,⟨by omega⟩,⟨?_⟩,⟨below_then HB.out HB.out.size hbb⟩⟩
       exact Kd.R_lower HV6.out (Nat.le_trans HB.out.size (Nat.le_trans HI.out.below.size hsz5.out))
     ·have hd : decide ((n : Int) < (pts.length : Int)) = false := decide_eq_false (by omega)
      have hn : n = pts.length := by have := HK.out;omega
      subst hn
      obtain ⟨A9,c9,e9,hc9,hC9⟩ := Kd.R_reads HS.out
      cases e9
      have hsum := polSum_ok hp HX.out pts.length (Nat.le_refl _)
      obtain ⟨kt,hkt⟩ := (trim_ev (polSum p pts pts.length) (by omega)).rounds
      have HT := am (show Calls Try.prog 59 #[.slice A9 (polSum p pts pts.length).length c9] wr fun e w' => ∃ v0_ : Value,e = .returned v0_ ∧ Kd.R (Kd.int .u64) 22 w' wr.heap.size (fun _ => True) v0_ (polL p pts) ∧ Below wr.heap.size wr w' from poly_Trim.calls kt A9 c9 (polSum p pts pts.length) (polL p pts) wr hC9 hc9 hkt)
      clear hlt HK hsum hkt hC9
      go_wp2_with (first|(go_at_call 59;(with_reducible refine HT.out.mono ?_);rintro e w4 ⟨v4,rfl,hv4,hb4⟩))
      first|go_ret2|((try simp only [Exit.inBlock,Exit.then]);refine bodyPost_ret (results_tmp rfl _ _ rfl) rfl ?_)
      rw [HRR.out]
      have hb1 := below_step HB3.out HB.out
      exact ⟨_,rfl,Kd.R_lower hv4 hb1.size,below_step hb1 hb4⟩
   ·have hd : decide xs.Nodup = false := decide_eq_false hnd
    have hr1 := HR1.out
    have hr2 := HR2.out
    rw [if_neg hnd] at hr1 hr2
    subst hr1 hr2
    clear hnd HR1 HR2
    go_wp2_with (first|(go_at_call 52;(with_reducible refine HU.out.mono ?_);rintro e w1 ⟨rfl,hb3⟩;have HB3 := am (below_step HB.out hb3);clear hb3))
    first|go_ret2|((try simp only [Exit.inBlock,Exit.then]);refine bodyPost_ret (results_tmp rfl _ _ rfl) rfl ?_)
    exact ⟨_,rfl,Kd.R_nil _ _ _ _ _,HB3.out⟩
theorem zeroB (w : World) : (zeroValue 4).run Try.prog w = .ok (.bool false) w := by kernel_rfl
set_option maxHeartbeats 2000000 in
set_option maxRecDepth 100000 in
theorem placed_walk (A : Option Addr) (c : Nat) (pts : List S49) (hl : pts.length ≤ 1099511627776) (w : World) (hr : Kd.C k49 w A pts.length pts) (hc : pts.length ≤ c) :
  Calls Try.prog 38 #[.slice A pts.length c] w fun e w' => e = .returned (.bool (decide (0 :: xsOf pts).Nodup)) ∧ Below w.heap.size w w' := by
 obtain ⟨r,hr1⟩ : ∃ y,y = decide (0 :: xsOf pts).Nodup := ⟨_,rfl⟩
 rw [← hr1]
 have HR1 := Aside0.mk hr1
 have HR := Aside0.mk hr
 clear hr1 hr
 have hs0 := seen_put Try.underlying78 Try.underlying22 (seen_made w) 0 (by simp)
 have hb0 : Below w.heap.size w (putSeen (w.alloc (.map #[] 0)) w.heap.size [0]) := putSeen_below (below_alloc (Below.refl _ _) _) (Nat.le_refl _)
 have hS0 : SeenAt (putSeen (w.alloc (.map #[] 0)) w.heap.size [0]) w.heap.size [0] := putSeen_at (by show _ < (w.heap.push _).size;simp)
 have HB0 := Aside0.mk hb0
 have HS0 := Aside0.mk hS0
 clear hb0 hS0
 have hmm := @run_makeMap Try.prog
 go_enter Try.func38,Try.ntmps38
 go_wp2
 clear hs0 hmm
 go_loopg [10] pts.length (fun kq v10 w' => ∃ (n : Nat),v10 = .int .i64 (n : Int) ∧ Aside0 (kq + n = pts.length) ∧ Aside0 (SeenAt w' w.heap.size (0 :: xsOf (pts.take n))) ∧ Aside0 ((0 :: xsOf (pts.take n)).Nodup) ∧ Aside0 (Below w.heap.size w w'))
 case atStart => exact ⟨0,rfl,⟨rfl⟩,HS0,⟨by simp [xsOf]⟩,HB0⟩
 case round =>
  clear HS0 HB0
  obtain ⟨n,rfl,HK,HS,HN,HB⟩ := hrel
  by_cases hlt : n < pts.length
  ·have p1 : ((0 : Int) ≤ (n : Int)) = True := eq_true (by omega)
   have q1 : ((n : Int) < (pts.length : Int)) = True := eq_true (by omega)
   obtain ⟨ad,e1,hx0,hx1⟩ := at_T49 HR.out (n : Int) (by omega) (by omega)
   cases e1
   replace hx0 := pw_cell_below HB.out hx0
   replace hx1 := pw_cell_below HB.out hx1
   rw [Int.toNat_natCast] at hx0 hx1
   have hnext := xsOf_next pts n hlt
   obtain ⟨X,hX⟩ : ∃ y,y = (rd_T49 pts (n : Int)).f0 := ⟨_,rfl⟩
   obtain ⟨Y,hY⟩ : ∃ y,y = (rd_T49 pts (n : Int)).f1 := ⟨_,rfl⟩
   rw [← hX] at hx0
   rw [← hY] at hx1
   rw [← hX] at hnext
   obtain ⟨L,hL⟩ : ∃ y,y = 0 :: xsOf (pts.take n) := ⟨_,rfl⟩
   have hL2 : 0 :: xsOf (pts.take (n + 1)) = L ++ [X] := by rw [hL,← hnext];rfl
   rw [← hL] at HS HN
   have HL2 := Aside0.mk hL2
   have hall : ∃ m,0 :: xsOf pts = L ++ [X] ++ m := ⟨xsOf (pts.drop (n + 1)),by
    rw [← hL2];unfold xsOf;rw [List.map_take,List.map_drop,List.cons_append,List.take_append_drop]⟩
   have HAll := Aside0.mk hall
   clear hX hY hnext hL hL2 hall
   have hSA := SeenAt.alloc HS.out (Obj.cells #[Value.int IntKind.u64 X,Value.int IntKind.u64 Y] 49)
   have hlook := seen_look Try.underlying78 Try.underlying22 (zeroB _) hSA X
   by_cases hm : X ∈ L
   ·rw [decide_eq_true hm] at hlook
    have hf : r = false := by
     rw [HR1.out,decide_eq_false]
     obtain ⟨m,e⟩ := HAll.out
     rw [e]
     intro hnd
     have := (List.nodup_append.1 (List.nodup_append.1 hnd).1)
     exact this.2.2 X hm X (by simp) rfl
    have HF := Aside0.mk hf
    clear hm hf hSA
    go_wp2
    first|go_ret2|((try simp only [Exit.inBlock,Exit.then]);refine bodyPost_ret (results_tmp rfl _ _ _) rfl ?_)
    exact ⟨by rw [HF.out] <;> rfl,below_alloc HB.out _⟩
   ·rw [decide_eq_false hm] at hlook
    have hput := seen_put Try.underlying78 Try.underlying22 hSA X hm
    have hlt2 : w.heap.size < (wr.alloc (Obj.cells #[Value.int IntKind.u64 X,Value.int IntKind.u64 Y] 49)).heap.size := by
     have := (Array.getElem?_eq_some_iff.1 hSA).1;exact this
    have HNew := Aside0.mk (putSeen_at (L := L ++ [X]) hlt2)
    have HB2 := Aside0.mk (putSeen_below (L := L ++ [X]) (below_alloc HB.out (Obj.cells #[Value.int IntKind.u64 X,Value.int IntKind.u64 Y] 49)) (Nat.le_refl w.heap.size))
    have hnd : (L ++ [X]).Nodup := List.nodup_append.2 ⟨HN.out,by simp,fun a ha b hb e => by simp only [List.mem_cons,List.not_mem_nil,or_false] at hb;subst hb;subst e;exact hm ha⟩
    have HND := Aside0.mk hnd
    clear hm hnd hSA hlt2
    go_wp2
    go_roundg (pts.length - (n + 1))
    case measure => have := HK.out;omega
    case rel => exact ⟨n + 1,by go_num,⟨by omega⟩,⟨by rw [HL2.out];exact HNew.out⟩,⟨by rw [HL2.out];exact HND.out⟩,HB2⟩
  ·have hd : decide ((n : Int) < (pts.length : Int)) = false := decide_eq_false (by omega)
   have hn : n = pts.length := by have := HK.out;omega
   subst hn
   have hf : r = true := by
    rw [HR1.out];exact decide_eq_true (by have := HN.out;rwa [List.take_length] at this)
   have HF := Aside0.mk hf
   clear hlt HK hf
   go_wp2
   first|go_ret2|((try simp only [Exit.inBlock,Exit.then]);refine bodyPost_ret (results_tmp rfl _ _ _) rfl ?_)
   exact ⟨by rw [HF.out] <;> rfl,HB.out⟩
def shamir_placed.f (l0 : List S49) : Option Bool := if l0.length ≤ 1000000 then some (decide (0 :: xsOf l0).Nodup) else none
theorem shamir_placed.calls (A0 : Option Addr) (c0 : Nat) (l0 : List S49) (r : Bool) (w : World) (hr0 : Kd.C k49 w A0 l0.length l0) (hc0 : l0.length ≤ c0) (h : shamir_placed.f l0 = some r) :
  Calls Try.prog 38 #[.slice A0 l0.length c0] w fun e w' => e = .returned (.bool r) ∧ Below w.heap.size w w' := by
 unfold shamir_placed.f at h
 by_cases hl : l0.length ≤ 1000000
 ·rw [if_pos hl] at h
  rw [← Option.some.inj h]
  exact placed_walk A0 c0 l0 (by omega) w hr0 hc0
 ·rw [if_neg hl] at h;cases h
def supB (p : Int) : Bool := decide (p = 31) || decide (p = 127) || decide (p = 8191) || decide (p = 131071) || decide (p = 524287) || decide (p = 2147483647) || decide (p = 2305843009213693951)
theorem supB_of {p : Int} (h : supB p = true) : Supp p := by
 simp only [supB,Bool.or_eq_true,decide_eq_true_eq] at h
 rcases h with (((((h|h)|h)|h)|h)|h)|h
 ·exact ⟨5,Or.inl ⟨h,rfl⟩⟩
 ·exact ⟨7,Or.inr (Or.inl ⟨h,rfl⟩)⟩
 ·exact ⟨13,Or.inr (Or.inr (Or.inl ⟨h,rfl⟩))⟩
 ·exact ⟨17,Or.inr (Or.inr (Or.inr (Or.inl ⟨h,rfl⟩)))⟩
 ·exact ⟨19,Or.inr (Or.inr (Or.inr (Or.inr (Or.inl ⟨h,rfl⟩))))⟩
 ·exact ⟨31,Or.inr (Or.inr (Or.inr (Or.inr (Or.inr (Or.inl ⟨h,rfl⟩)))))⟩
 ·exact ⟨61,Or.inr (Or.inr (Or.inr (Or.inr (Or.inr (Or.inr ⟨h,rfl⟩)))))⟩
theorem supB_iff {p : Int} : supB p = true ↔ Supp p := by
 refine ⟨supB_of,fun ⟨q,h⟩ => ?_⟩
 rcases h with ⟨rfl,_⟩|⟨rfl,_⟩|⟨rfl,_⟩|⟨rfl,_⟩|⟨rfl,_⟩|⟨rfl,_⟩|⟨rfl,_⟩ <;> rfl
def resB (p x : Int) : Bool := decide (0 ≤ x) && decide (x < p)
theorem resB_iff {p x : Int} : resB p x = true ↔ Res p x := by simp [resB,Res]
def ptsB (p : Int) (l : List S49) : Bool := l.all fun x => resB p x.f0 && resB p x.f1
theorem ptsB_iff {p : Int} {l : List S49} : ptsB p l = true ↔ PtsOk p l := by simp [ptsB,PtsOk,resB_iff]
theorem ifs {c : Prop} [Decidable c] {α : Type} {x : Option α} {r : α} (h : (if c then x else none) = some r) : c ∧ x = some r := by
 by_cases hc : c
 ·rw [if_pos hc] at h;exact ⟨hc,h⟩
 ·rw [if_neg hc] at h;cases h
def interpolate_Polynomial.f (a0 : Int) (l1 : List S49) : Option (List Int × Int) :=
 if supB a0 = true then (if ptsB a0 l1 = true then (if l1.length ≤ 49 then some (if (xsOf l1).Nodup then polL a0 l1 else [],if (xsOf l1).Nodup then 0 else 1) else none) else none) else none
theorem interpolate_Polynomial.calls (a0 : Int) (A1 : Option Addr) (c1 : Nat) (l1 : List S49) (r1 : List Int) (r2 : Int) (w : World) (hr1 : Kd.C k49 w A1 l1.length l1) (hc1 : l1.length ≤ c1) (h : interpolate_Polynomial.f a0 l1 = some (r1,r2)) :
  Calls Try.prog 39 #[.int .u64 a0,.slice A1 l1.length c1] w fun e w' => ∃ v0_ : Value,e = .returned (.tuple #[v0_,.int .i64 r2]) ∧ Kd.R (Kd.int .u64) 22 w' w.heap.size (fun _ => True) v0_ r1 ∧ Below w.heap.size w w' := by
 unfold interpolate_Polynomial.f at h
 obtain ⟨h1,h⟩ := ifs h
 obtain ⟨h2,h⟩ := ifs h
 obtain ⟨h3,h⟩ := ifs h
 have h := Option.some.inj h
 have e1 := congrArg Prod.fst h
 have e2 := congrArg Prod.snd h
 simp only at e1 e2
 rw [← e1,← e2]
 exact pol_walk (supB_of h1) A1 c1 l1 (ptsB_iff.1 h2) h3 w hr1 hc1
end Go.Proofs.Ytjnkkfdlcbcelaa.Hw
end
section
namespace Go.Proofs.Ytjnkkfdlcbcelaa.Pr
open Go.RowKit Go.Proofs.YtjnkkfdlcbcelaaW.PrintWords Go.Proofs.YtjnkkfdlcbcelaaW.PrintLast Go.Proofs.YtjnkkfdlcbcelaaW.PrintMore
attribute [local go_sem] max2_int min2_int max_two min_two max_three min_three max_four min_four
open Go.Proofs.Ytjnkkfdlcbcelaa.Hw
def shamir_Reconstruct.j0 : Nat → Int → Int → List (S49) → Bool → Option (Int × Int)
 | 0,_,_,_,_ => none
 | k + 1,x0,x1,x2,x22 => if x22 = true then (some (0,1)) else ((interpolate_Polynomial.f x0 x2).bind fun bt291 => (if bt291.2 = 0 then ((poly_Degree.f k bt291.1).bind fun t295 => (if t295 > x1 then (some (0,9)) else ((poly_Coefficient.f bt291.1 0).bind fun t296 => (some (t296,0))))) else (some (0,bt291.2))))
def shamir_Reconstruct.f (k : Nat) (a0 : Int) (a1 : Int) (l2 : List (S49)) : Option (Int × Int) := if a1 < 0 then (shamir_Reconstruct.j0 k a0 a1 l2 true) else ((shamir_placed.f l2).bind fun t290 => (if t290 = true then (shamir_Reconstruct.j0 k a0 a1 l2 (decide ((l2.length : Int) ≤ a1))) else (shamir_Reconstruct.j0 k a0 a1 l2 true)))
theorem shamir_Reconstruct.mono_l : ∀ k,(∀ y0 y1 y2 y3,LeO (shamir_Reconstruct.j0 k y0 y1 y2 y3) (shamir_Reconstruct.j0 (k + 1) y0 y1 y2 y3))
 | 0 => fun _ _ _ _ r h => by simp [shamir_Reconstruct.j0] at h
 | k + 1 => by
  have ih0 := shamir_Reconstruct.mono_l k
  ·intro y0 y1 y2 y3
   unfold shamir_Reconstruct.j0
   repeat' first
   | (with_reducible exact ih0 _ _ _ _)
   | (with_reducible exact poly_Degree.mono _ _)
   | (with_reducible exact LeO.refl _)
   | (with_reducible exact LeO.none _)
   | (with_reducible refine LeO.ite ?_ ?_)
   | (with_reducible refine LeO.bind ?_ (fun _ => ?_))
   | exact ih0 _ _ _ _
   | exact poly_Degree.mono _ _
   | exact LeO.none _
   | refine LeO.ite ?_ ?_
   | refine LeO.bind ?_ (fun _ => ?_)
theorem shamir_Reconstruct.mono : ∀ a0 a1 a2 k,LeO (shamir_Reconstruct.f k a0 a1 a2) (shamir_Reconstruct.f (k + 1) a0 a1 a2) := by
 intro a0 a1 a2 k
 have ih0 := shamir_Reconstruct.mono_l k
 unfold shamir_Reconstruct.f
 repeat' first
   | (with_reducible exact ih0 _ _ _ _)
   | (with_reducible exact poly_Degree.mono _ _)
   | (with_reducible exact LeO.refl _)
   | (with_reducible exact LeO.none _)
   | (with_reducible refine LeO.ite ?_ ?_)
   | (with_reducible refine LeO.bind ?_ (fun _ => ?_))
   | exact ih0 _ _ _ _
   | exact poly_Degree.mono _ _
   | exact LeO.none _
   | refine LeO.ite ?_ ?_
   | refine LeO.bind ?_ (fun _ => ?_)
set_option maxHeartbeats 8000000 in
set_option maxRecDepth 100000 in
theorem shamir_Reconstruct.calls (k : Nat) (a0 : Int) (a1 : Int) (A2 : Option Addr) (c2 : Nat) (l2 : List (S49)) (r1 : Int) (r2 : Int) (w : World) (hr2 : Kd.C k49 w A2 l2.length l2) (hc2 : l2.length ≤ c2) (h : shamir_Reconstruct.f k a0 a1 l2 = some (r1,r2)) :
  Calls Try.prog 24 #[.int .u64 a0,.int .i64 a1,.slice A2 l2.length c2] w fun e w' => e = .returned (.tuple #[.int .u64 r1,.int .i64 r2]) ∧ Below w.heap.size w w' := by
 have HR2 := am hr2
 have HC2 := am hc2
 clear hr2 hc2
 have HB := am (Below.refl w.heap.size w)
 have H : (if a1 < 0 then (shamir_Reconstruct.j0 k a0 a1 l2 true) else ((shamir_placed.f l2).bind fun t290 => (if t290 = true then (shamir_Reconstruct.j0 k a0 a1 l2 (decide ((l2.length : Int) ≤ a1))) else (shamir_Reconstruct.j0 k a0 a1 l2 true)))) = some (r1,r2) := h
 clear h
 have HC4 := am H
 clear H
 go_enter Try.func24,Try.ntmps24
 go_upto_region 1 with (fail)
 go_cut [22] (fun v22 wc => ∃ (kq : Nat) (x22_3 : Bool),v22 = .bool x22_3 ∧ Aside0 (shamir_Reconstruct.j0 kq a0 a1 l2 x22_3 = some (r1,r2)) ∧ Aside0 (kq ≤ k) ∧ Aside0 (Below w.heap.size w wc))
 case first =>
  have H := HC4.out
  clear HC4
  by_cases c5 : a1 < 0
  ·rw [if_pos c5] at H
   have c5b0 : decide (a1 < 0) = true := decide_eq_true c5
   clear c5
   (first|rw [c5b0]|(simp only [i64_w,i32_w];rw [c5b0])|skip)
   have H' := am H
   clear H
   go_wp2
   go_meet
   case rel => exact ⟨_,(true),(by first|rfl|(simp;done)|(simp [*];done)),H',⟨by first|omega|exact Nat.le_refl _⟩,⟨bb HB⟩⟩
  ·rw [if_neg c5] at H
   have c5b0 : decide (a1 < 0) = false := decide_eq_false c5
   clear c5
   (first|rw [c5b0]|(simp only [i64_w,i32_w];rw [c5b0])|skip)
   replace H := Option.bind_eq_some_iff.mp H
   obtain ⟨t290,A60,H⟩ := H
   try dsimp only at H
   have A6 := am A60
   clear A60
   by_cases c7 : t290 = true
   ·subst c7
    rw [if_pos rfl] at H
    have H' := am H
    clear H
    go_wp2_with (first|(go_at_call 38;(with_reducible refine (shamir_placed.calls _ _ l2 true _ ?side1 ?side2 A6.out).mono ?_);(case side1 => exact cb HR2 HB);(case side2 => exact HC2.out);rintro e w8 ⟨rfl,hb⟩;have n0_ := am (below_step (bb HB) hb);clear HB;have HB := n0_;clear n0_;(try clear hb);(try clear hb2);(try clear hk);(try clear hi)))
    go_meet
    case rel => exact ⟨_,(decide ((l2.length : Int) ≤ a1)),(by first|rfl|(simp;done)|(simp [*];done)),H',⟨by first|omega|exact Nat.le_refl _⟩,⟨bb HB⟩⟩
   ·replace c7 := Bool.eq_false_iff.mpr c7
    subst c7
    rw [if_neg (show ¬ (false = true) by decide)] at H
    have H' := am H
    clear H
    go_wp2_with (first|(go_at_call 38;(with_reducible refine (shamir_placed.calls _ _ l2 false _ ?side1 ?side2 A6.out).mono ?_);(case side1 => exact cb HR2 HB);(case side2 => exact HC2.out);rintro e w9 ⟨rfl,hb⟩;have n0_ := am (below_step (bb HB) hb);clear HB;have HB := n0_;clear n0_;(try clear hb);(try clear hb2);(try clear hk);(try clear hi)))
    go_meet
    case rel => exact ⟨_,(true),(by first|rfl|(simp;done)|(simp [*];done)),H',⟨by first|omega|exact Nat.le_refl _⟩,⟨bb HB⟩⟩
 case rest =>
  clear HC4
  try clear c2
  try clear p2
  try clear c5
  try clear c5b0
  try clear c7
  obtain ⟨kq,x22_3,rfl,HA,HJ3,HB⟩ := hcut
  cases kq with
  | zero => exact absurd HA.out (by simp [shamir_Reconstruct.j0])
  | succ kj3 =>
   have H := HA.out
   clear HA
   simp only [shamir_Reconstruct.j0] at H
   by_cases c10 : x22_3 = true
   ·subst c10
    rw [if_pos rfl] at H
    simp only [Option.some.injEq,Prod.mk.injEq] at H
    obtain ⟨rfl,rfl⟩ := H
    go_wp2
    go_ret2
    exact ⟨by first|rfl|(simp [errW_none,errW_some] <;> rfl)|(simp [*,errW_none,errW_some] <;> rfl),bb HB⟩
   ·replace c10 := Bool.eq_false_iff.mpr c10
    subst c10
    rw [if_neg (show ¬ (false = true) by decide)] at H
    replace H := Option.bind_eq_some_iff.mp H
    obtain ⟨⟨t291,t292⟩,A110,H⟩ := H
    try dsimp only at H
    have A11 := am A110
    clear A110
    by_cases c12 : t292 = 0
    ·rw [if_pos c12] at H
     have c12b0 : (t292 == 0) = true := beq_iff_eq.mpr c12
     have c12b1 : (t292 != 0) = false := bne_eq_false_iff_eq.mpr c12
     clear c12
     replace H := Option.bind_eq_some_iff.mp H
     obtain ⟨t295,A130,H⟩ := H
     try dsimp only at H
     have A13 := am A130
     clear A130
     by_cases c14 : t295 > a1
     ·rw [if_pos c14] at H
      have c14b0 : decide (a1 < t295) = true := decide_eq_true c14
      clear c14
      simp only [Option.some.injEq,Prod.mk.injEq] at H
      obtain ⟨rfl,rfl⟩ := H
      go_wp2_with (first|((with_reducible refine gate_callee (f := 39) rfl ?_);refine goesL_ (some 26) rfl rfl Try.func39 (by kernel_rfl) rfl #[.int .u64 a0,.slice A2 l2.length c2] rfl (by (try simp only [List.map_toArray,List.map_cons,List.map_nil]);first|done|rfl|(simp only [List.length_drop,List.length_take];rfl)) ?_;(with_reducible refine (interpolate_Polynomial.calls a0 _ _ l2 t291 t292 _ ?side1 ?side2 A11.out).mono ?_);(case side1 => exact cb HR2 HB);(case side2 => exact HC2.out);rintro e w15 ⟨v293,rfl,ho0,hb⟩;refine ⟨_,rfl,?_⟩;have n0_ := am (Kd.R_lower ho0 (below_size (bb HB)));have n1_ := am (below_step (bb HB) hb);clear HB;have HO294 := n0_;have HB := n1_;clear n0_ n1_;(try clear hb);(try clear hb2);(try clear hk);(try clear hi);(try clear ho0);obtain ⟨Ao16,co16,eo16⟩ := Kd.R_slice HO294.out;subst eo16)|((with_reducible refine gate_callee (f := 40) rfl ?_);refine goesL_ (some 33) rfl rfl Try.func40 (by kernel_rfl) rfl #[.slice Ao16 t291.length co16] rfl (by (try simp only [List.map_toArray,List.map_cons,List.map_nil]);first|done|rfl|(simp only [List.length_drop,List.length_take];rfl)) ?_;(with_reducible refine (poly_Degree.calls kj3 _ _ t291 t295 _ ?side1 ?side2 A13.out).mono ?_);(case side1 => exact cr HO294);(case side2 => exact (Kd.R_reads' HO294.out).2.1);rintro e w' ⟨rfl,⟨nd,rfl⟩⟩;refine ⟨_,rfl,?_⟩))
      go_ret2
      exact ⟨by first|rfl|(simp [errW_none,errW_some] <;> rfl)|(simp [*,errW_none,errW_some] <;> rfl),bb HB⟩
     ·rw [if_neg c14] at H
      have c14b0 : decide (a1 < t295) = false := decide_eq_false c14
      clear c14
      replace H := Option.bind_eq_some_iff.mp H
      obtain ⟨t296,A170,H⟩ := H
      try dsimp only at H
      have A17 := am A170
      clear A170
      simp only [Option.some.injEq,Prod.mk.injEq] at H
      obtain ⟨rfl,rfl⟩ := H
      go_wp2_with (first|((with_reducible refine gate_callee (f := 39) rfl ?_);refine goesL_ (some 26) rfl rfl Try.func39 (by kernel_rfl) rfl #[.int .u64 a0,.slice A2 l2.length c2] rfl (by (try simp only [List.map_toArray,List.map_cons,List.map_nil]);first|done|rfl|(simp only [List.length_drop,List.length_take];rfl)) ?_;(with_reducible refine (interpolate_Polynomial.calls a0 _ _ l2 t291 t292 _ ?side1 ?side2 A11.out).mono ?_);(case side1 => exact cb HR2 HB);(case side2 => exact HC2.out);rintro e w18 ⟨v293,rfl,ho0,hb⟩;refine ⟨_,rfl,?_⟩;have n0_ := am (Kd.R_lower ho0 (below_size (bb HB)));have n1_ := am (below_step (bb HB) hb);clear HB;have HO294 := n0_;have HB := n1_;clear n0_ n1_;(try clear hb);(try clear hb2);(try clear hk);(try clear hi);(try clear ho0);obtain ⟨Ao19,co19,eo19⟩ := Kd.R_slice HO294.out;subst eo19)|((with_reducible refine gate_callee (f := 40) rfl ?_);refine goesL_ (some 33) rfl rfl Try.func40 (by kernel_rfl) rfl #[.slice Ao19 t291.length co19] rfl (by (try simp only [List.map_toArray,List.map_cons,List.map_nil]);first|done|rfl|(simp only [List.length_drop,List.length_take];rfl)) ?_;(with_reducible refine (poly_Degree.calls kj3 _ _ t291 t295 _ ?side1 ?side2 A13.out).mono ?_);(case side1 => exact cr HO294);(case side2 => exact (Kd.R_reads' HO294.out).2.1);rintro e w' ⟨rfl,⟨nd,rfl⟩⟩;refine ⟨_,rfl,?_⟩)|((with_reducible refine gate_callee (f := 41) rfl ?_);refine goesL_ (some 37) rfl rfl Try.func41 (by kernel_rfl) rfl #[.slice Ao19 t291.length co19,.int .i64 0] rfl (by (try simp only [List.map_toArray,List.map_cons,List.map_nil]);first|done|rfl|(simp only [List.length_drop,List.length_take];rfl)) ?_;(with_reducible refine (poly_Coefficient.calls _ _ t291 0 t296 _ ?side1 ?side2 A17.out).mono ?_);(case side1 => exact cr HO294);(case side2 => exact (Kd.R_reads' HO294.out).2.1);rintro e w' ⟨rfl,⟨nd,rfl⟩⟩;refine ⟨_,rfl,?_⟩))
      go_ret2
      exact ⟨by first|rfl|(simp [errW_none,errW_some] <;> rfl)|(simp [*,errW_none,errW_some] <;> rfl),bb HB⟩
    ·rw [if_neg c12] at H
     have c12b0 : (t292 == 0) = false := beq_eq_false_iff_ne.mpr c12
     have c12b1 : (t292 != 0) = true := bne_iff_ne.mpr c12
     simp only [Option.some.injEq,Prod.mk.injEq] at H
     obtain ⟨rfl,rfl⟩ := H
     go_wp2_with (first|((with_reducible refine gate_callee (f := 39) rfl ?_);refine goesL_ (some 26) rfl rfl Try.func39 (by kernel_rfl) rfl #[.int .u64 a0,.slice A2 l2.length c2] rfl (by (try simp only [List.map_toArray,List.map_cons,List.map_nil]);first|done|rfl|(simp only [List.length_drop,List.length_take];rfl)) ?_;(with_reducible refine (interpolate_Polynomial.calls a0 _ _ l2 t291 t292 _ ?side1 ?side2 A11.out).mono ?_);(case side1 => exact cb HR2 HB);(case side2 => exact HC2.out);rintro e w20 ⟨v293,rfl,ho0,hb⟩;refine ⟨_,rfl,?_⟩;have n0_ := am (Kd.R_lower ho0 (below_size (bb HB)));have n1_ := am (below_step (bb HB) hb);clear HB;have HO294 := n0_;have HB := n1_;clear n0_ n1_;(try clear hb);(try clear hb2);(try clear hk);(try clear hi);(try clear ho0)))
     go_ret2
     exact ⟨by first|rfl|(simp [errW_none,errW_some] <;> rfl)|(simp [*,errW_none,errW_some] <;> rfl),bb HB⟩
end Go.Proofs.Ytjnkkfdlcbcelaa.Pr
end
section
namespace Go.Proofs.Ytjnkkfdlcbcelaa.Pl
open Go.Proofs.Ytjnkkfdlcbcelaa.Fd
section
variable {p : Nat} [NeZero p]
def ev (x : Fin p) : List (Fin p) → Fin p
 | [] => 0
 | c :: f => c + x * ev x f
def quot (a : Fin p) : List (Fin p) → List (Fin p)
 | [] => []
 | _ :: f => match f with
  | [] => []
  | _ => ev a f :: quot a f
theorem quot_length (a : Fin p) : ∀ f : List (Fin p),(quot a f).length = f.length - 1
 | [] => rfl
 | [_] => rfl
 | _ :: d :: f => by
  have := quot_length a (d :: f)
  simp only [quot,List.length_cons] at *
  omega
theorem quot_spec (a x : Fin p) : ∀ f : List (Fin p),ev x f = (x - a) * ev x (quot a f) + ev a f
 | [] => by simp only [quot,ev];grind
 | [c] => by simp only [quot,ev];grind
 | c :: d :: f => by
  have h := quot_spec a x (d :: f)
  have e : quot a (c :: d :: f) = ev a (d :: f) :: quot a (d :: f) := rfl
  rw [e]
  generalize hq : quot a (d :: f) = q at *
  rw [ev,h]
  show _ = (x - a) * (ev a (d :: f) + x * ev x q) + (c + a * ev a (d :: f))
  grind
theorem zero_of_quot (a : Fin p) : ∀ f : List (Fin p),(∀ c ∈ quot a f,c = 0) → ev a f = 0 → ∀ c ∈ f,c = 0
 | [],_,_ => by simp
 | [c],_,h => by
  intro x hx
  have h : c + a * 0 = 0 := h
  simp only [List.mem_cons,List.not_mem_nil,or_false] at hx
  subst hx;grind
 | c :: d :: f,hq,h => by
  have e : quot a (c :: d :: f) = ev a (d :: f) :: quot a (d :: f) := rfl
  rw [e] at hq
  have h1 : ev a (d :: f) = 0 := hq _ (by simp)
  have ih := zero_of_quot a (d :: f) (fun x hx => hq x (List.mem_cons_of_mem _ hx)) h1
  have h2 : c + a * ev a (d :: f) = 0 := h
  rw [h1] at h2
  have hc : c = 0 := by grind
  intro x hx
  rcases List.mem_cons.1 hx with rfl|hx
  ·exact hc
  ·exact ih x hx
def Dom (p : Nat) [NeZero p] : Prop := ∀ a b : Fin p,a * b = 0 → a = 0 ∨ b = 0
theorem zero_of_roots (hd : Dom p) : ∀ (xs f : List (Fin p)),xs.Nodup → f.length ≤ xs.length → (∀ x ∈ xs,ev x f = 0) → ∀ c ∈ f,c = 0
 | [],f,_,hl,_ => by
  have : f = [] := by cases f with|nil => rfl|cons _ _ => simp at hl
  subst this;simp
 | a :: xs,f,hn,hl,h => by
  have hn' := List.nodup_cons.1 hn
  refine zero_of_quot a f (zero_of_roots hd xs (quot a f) hn'.2 (by rw [quot_length];simp at hl;omega) fun x hx => ?_) (h a (by simp))
  have h1 := quot_spec a x f
  rw [h x (List.mem_cons_of_mem _ hx),h a (by simp)] at h1
  have h2 : (x - a) * ev x (quot a f) = 0 := by grind
  rcases hd _ _ h2 with h3|h3
  ·have : x = a := by grind
   subst this;exact absurd hx hn'.1
  ·exact h3
def sub : List (Fin p) → List (Fin p) → List (Fin p)
 | [],g => g.map fun c => -c
 | f,[] => f
 | c :: f,d :: g => (c - d) :: sub f g
omit [NeZero p] in
theorem sub_length : ∀ f g : List (Fin p),(sub f g).length = max f.length g.length
 | [],g => by simp [sub]
 | _ :: _,[] => by simp [sub]
 | _ :: f,_ :: g => by simp [sub,sub_length f g]
theorem ev_neg (x : Fin p) : ∀ f : List (Fin p),ev x (f.map fun c => -c) = - ev x f
 | [] => by simp only [List.map_nil,ev];grind
 | c :: f => by simp only [List.map_cons,ev,ev_neg x f];grind
theorem ev_sub (x : Fin p) : ∀ f g : List (Fin p),ev x (sub f g) = ev x f - ev x g
 | [],g => by simp only [sub,ev_neg,ev];grind
 | _ :: _,[] => by simp only [sub,ev];grind
 | c :: f,d :: g => by simp only [sub,ev,ev_sub x f g];grind
theorem getD_sub (i : Nat) : ∀ f g : List (Fin p),(sub f g).getD i 0 = f.getD i 0 - g.getD i 0 := by
 induction i with
 | zero =>
  intro f g
  cases f with
  | nil => cases g with
   | nil => simp only [sub,List.map_nil,List.getD_nil];grind
   | cons d g => simp only [sub,List.map_cons,List.getD_cons_zero,List.getD_nil];grind
  | cons c f => cases g with
   | nil => simp only [sub,List.getD_cons_zero,List.getD_nil];grind
   | cons d g => simp only [sub,List.getD_cons_zero]
 | succ i ih =>
  intro f g
  cases f with
  | nil => cases g with
   | nil => simp only [sub,List.map_nil,List.getD_nil];grind
   | cons d g =>
    have := ih [] g
    simp only [sub,List.map_cons,List.getD_cons_succ,List.getD_nil] at *
    exact this
  | cons c f => cases g with
   | nil => simp only [sub,List.getD_cons_succ,List.getD_nil];grind
   | cons d g => simp only [sub,List.getD_cons_succ];exact ih f g
theorem getD_zero {f : List (Fin p)} (h : ∀ c ∈ f,c = 0) (i : Nat) : f.getD i 0 = 0 := by
 rw [List.getD_eq_getElem?_getD]
 by_cases hi : i < f.length
 ·rw [List.getElem?_eq_getElem hi];exact h _ (List.getElem_mem hi)
 ·rw [List.getElem?_eq_none (by omega)];rfl
theorem unique (hd : Dom p) (xs f g : List (Fin p)) (hn : xs.Nodup) (hf : f.length ≤ xs.length) (hg : g.length ≤ xs.length) (h : ∀ x ∈ xs,ev x f = ev x g) (i : Nat) : f.getD i 0 = g.getD i 0 := by
 have h1 := getD_zero (zero_of_roots hd xs (sub f g) hn (by rw [sub_length];omega) fun x hx => by rw [ev_sub,h x hx];grind) i
 rw [getD_sub] at h1
 grind
theorem ev_congr (x : Fin p) : ∀ f g : List (Fin p),(∀ i,f.getD i 0 = g.getD i 0) → ev x f = ev x g := by
 intro f g h
 have : ∀ c ∈ sub f g,c = 0 := by
  intro c hc
  obtain ⟨i,hi,rfl⟩ := List.getElem_of_mem hc
  have := getD_sub i f g
  rw [h i,List.getD_eq_getElem?_getD,List.getElem?_eq_getElem hi] at this
  simp only [Option.getD_some] at this
  rw [this];grind
 have h0 : ∀ l : List (Fin p),(∀ c ∈ l,c = 0) → ev x l = 0 := by
  intro l
  induction l with
  | nil => intro _;rfl
  | cons c l ih => intro hl;rw [ev,ih (fun d hd => hl d (List.mem_cons_of_mem _ hd)),hl c (by simp)];grind
 have h1 := h0 _ this
 rw [ev_sub] at h1
 grind
end
section
variable {p : Nat} [NeZero p]
def mono (x : Fin p) : Nat → Fin p
 | 0 => 1
 | n + 1 => x * mono x n
theorem mono_add (x : Fin p) (a : Nat) : ∀ b,mono x (a + b) = mono x a * mono x b
 | 0 => by simp only [mono,Nat.add_zero];grind
 | b + 1 => by rw [← Nat.add_assoc];simp only [mono];rw [mono_add x a b];grind
theorem ev_append (x : Fin p) : ∀ f g : List (Fin p),ev x (f ++ g) = ev x f + mono x f.length * ev x g
 | [],g => by simp only [List.nil_append,ev,List.length_nil,mono];grind
 | c :: f,g => by simp only [List.cons_append,ev,List.length_cons,mono,ev_append x f g];grind
theorem ev_zeros (x : Fin p) : ∀ n,ev x (List.replicate n 0) = 0
 | 0 => rfl
 | n + 1 => by simp only [List.replicate_succ,ev,ev_zeros x n];grind
theorem ev_set (x v : Fin p) : ∀ (f : List (Fin p)) (i : Nat),i < f.length → ev x (f.set i v) = ev x f + (v - f.getD i 0) * mono x i
 | [],_,h => by simp at h
 | c :: f,0,_ => by simp only [List.set_cons_zero,ev,mono,List.getD_cons_zero];grind
 | c :: f,i + 1,h => by
  have := ev_set x v f i (by simpa using h)
  simp only [List.set_cons_succ,ev,mono,List.getD_cons_succ,this];grind
theorem ev_take_succ (x : Fin p) : ∀ (f : List (Fin p)) (n : Nat),ev x (f.take (n + 1)) = ev x (f.take n) + f.getD n 0 * mono x n
 | [],n => by simp only [List.take_nil,List.getD_nil,ev];grind
 | c :: f,0 => by simp only [List.take_succ_cons,List.take_zero,ev,List.getD_cons_zero,mono];grind
 | c :: f,n + 1 => by
  have := ev_take_succ x f n
  simp only [List.take_succ_cons,ev,List.getD_cons_succ,mono] at *
  rw [this];grind
def tf (p : Nat) [NeZero p] (a : Int) : Fin p := ⟨(a % (p : Int)).toNat,by
 have h : (0 : Int) < p := by have := Nat.pos_of_neZero p;omega
 have := Int.emod_lt_of_pos a h
 have := Int.emod_nonneg a (by omega : (p : Int) ≠ 0)
 omega⟩
theorem tf_val (a : Int) : (((tf p a).val : Nat) : Int) = a % (p : Int) := by
 have h : (0 : Int) < p := by have := Nat.pos_of_neZero p;omega
 show (((a % (p : Int)).toNat : Nat) : Int) = _
 rw [Int.toNat_of_nonneg (Int.emod_nonneg a (by omega))]
theorem tf_eq {a : Int} {x : Fin p} (h : ((x.val : Nat) : Int) = a % (p : Int)) : tf p a = x := by
 apply Fin.ext
 have := tf_val (p := p) a
 omega
theorem tf_of_emod {a b : Int} (h : a % (p : Int) = b % (p : Int)) : tf p a = tf p b := tf_eq (by rw [tf_val,h])
theorem tf_emod (a : Int) : tf p (a % (p : Int)) = tf p a := tf_of_emod (Int.emod_emod_of_dvd _ (Int.dvd_refl _))
theorem tf_add (a b : Int) : tf p (a + b) = tf p a + tf p b := by
 refine tf_eq ?_
 rw [Fin.val_add,Int.natCast_emod,Int.natCast_add,tf_val,tf_val,← Int.add_emod]
theorem tf_mul (a b : Int) : tf p (a * b) = tf p a * tf p b := by
 refine tf_eq ?_
 rw [Fin.val_mul,Int.natCast_emod,Int.natCast_mul,tf_val,tf_val,← Int.mul_emod]
theorem tf_zero : tf p 0 = 0 := tf_eq (by simp)
theorem tf_one : tf p 1 = 1 := by
 refine tf_eq ?_
 rw [show ((1 : Fin p).val) = 1 % p from rfl];simp
theorem tf_neg (a : Int) : tf p (-a) = - tf p a := by
 have h : tf p (-a) + tf p a = 0 := by rw [← tf_add,show -a + a = 0 from by omega,tf_zero]
 grind
theorem tf_sub (a b : Int) : tf p (a - b) = tf p a - tf p b := by rw [Int.sub_eq_add_neg,tf_add,tf_neg];grind
theorem tf_of_val (x : Fin p) : tf p ((x.val : Nat) : Int) = x := tf_eq (by
 have := x.isLt
 rw [← Int.natCast_emod,Nat.mod_eq_of_lt this])
theorem tf_inj {a b : Int} (ha : 0 ≤ a ∧ a < (p : Int)) (hb : 0 ≤ b ∧ b < (p : Int)) (h : tf p a = tf p b) : a = b := by
 have h1 := tf_val (p := p) a
 rw [h,tf_val,Int.emod_eq_of_lt ha.1 ha.2,Int.emod_eq_of_lt hb.1 hb.2] at h1
 exact h1.symm
theorem getD_tf (l : List Int) (i : Nat) : (l.map (tf p)).getD i 0 = tf p (l.getD i 0) := by
 rw [List.getD_eq_getElem?_getD,List.getD_eq_getElem?_getD,List.getElem?_map]
 cases l[i]? with
 | none => simp [tf_zero]
 | some v => rfl
def lin (y : Fin p) : List (Fin p) → Fin p
 | [] => 1
 | o :: l => (y - o) * lin y l
end
end Go.Proofs.Ytjnkkfdlcbcelaa.Pl
end
section
namespace Go.Proofs.Ytjnkkfdlcbcelaa.E
open Go.RowKit Go.Proofs.Ytjnkkfdlcbcelaa.Pr Go.Proofs.Ytjnkkfdlcbcelaa.Hw Go.Proofs.Ytjnkkfdlcbcelaa.Pl Go.Proofs.YtjnkkfdlcbcelaaW.PrintWords Go.Proofs.YtjnkkfdlcbcelaaW.PrintLast Go.Proofs.YtjnkkfdlcbcelaaW.PrintMore
theorem nz {p : Int} (hp : Supp p) : NeZero p.toNat := ⟨by have := hp.bd;omega⟩
theorem cast_p {p : Int} (hp : Supp p) : ((p.toNat : Nat) : Int) = p := by have := hp.bd;omega
section
variable {p : Int} (hp : Supp p) [NeZero p.toNat]
def T (p : Int) [NeZero p.toNat] (a : Int) : Fin p.toNat := tf p.toNat a
def M (p : Int) [NeZero p.toNat] (l : List Int) : List (Fin p.toNat) := l.map (T p)
include hp in
theorem T_mod (a : Int) : T p (a % p) = T p a := by
 have h := tf_emod (p := p.toNat) a
 rw [cast_p hp] at h;exact h
theorem T_add (a b : Int) : T p (a + b) = T p a + T p b := tf_add a b
theorem T_mul (a b : Int) : T p (a * b) = T p a * T p b := tf_mul a b
theorem T_sub (a b : Int) : T p (a - b) = T p a - T p b := tf_sub a b
theorem T_neg (a : Int) : T p (-a) = - T p a := tf_neg a
theorem T_zero : T p 0 = 0 := tf_zero
theorem T_one : T p 1 = 1 := tf_one
include hp in
theorem T_inj {a b : Int} (ha : Res p a) (hb : Res p b) (h : T p a = T p b) : a = b :=
 tf_inj (p := p.toNat) (by rw [cast_p hp];exact ha) (by rw [cast_p hp];exact hb) h
include hp in
theorem T_inv {a : Int} (ha : Res p a) (h0 : a ≠ 0) : T p a * T p (invp p a) = 1 := by
 rw [← T_mul,← T_one,← T_mod hp (a * invp p a),inv_spec hp ha h0]
include hp in
theorem T_back (x : Fin p.toNat) : Res p ((x.val : Nat) : Int) ∧ T p ((x.val : Nat) : Int) = x := by
 have := x.isLt
 have := cast_p hp
 exact ⟨⟨by omega,by omega⟩,tf_of_val x⟩
include hp in
theorem dom : Dom p.toNat := by
 intro a b h
 obtain ⟨r,e⟩ := T_back hp a
 by_cases h0 : ((a.val : Nat) : Int) = 0
 ·left;rw [← e,h0,T_zero]
 ·right
  have h1 := T_inv hp r h0
  rw [e] at h1
  grind
include hp in
theorem ev_evI (x : Int) : ∀ l,T p (evI p x l) = ev (T p x) (M p l)
 | [] => T_zero
 | c :: l => by
  have := ev_evI x l
  simp only [evI,M,List.map_cons,ev]
  rw [T_mod hp,T_add,T_mod hp,T_mul,this,M]
  grind
theorem M_getD (l : List Int) (i : Nat) : (M p l).getD i 0 = T p (l.getD i 0) := getD_tf l i
theorem M_length (l : List Int) : (M p l).length = l.length := List.length_map _
theorem ev_trimL (x : Fin p.toNat) (l : List Int) : ev x (M p (trimL l)) = ev x (M p l) :=
 ev_congr x _ _ (fun i => by rw [M_getD,M_getD,trimL_getD])
theorem ev_grow (x : Fin p.toNat) (l : List Int) (n : Nat) : ev x (M p (grow l n)) = ev x (M p l) := by
 have : M p (grow l n) = M p l ++ List.replicate (n - l.length) 0 := by
  unfold grow M;rw [List.map_append,List.map_replicate,T_zero]
 rw [this,ev_append,ev_zeros];grind
include hp in
theorem ev_put (x : Fin p.toNat) (l : List Int) (i : Nat) (k : Int) : ev x (M p (putL p l i k)) = ev x (M p l) + T p k * mono x i := by
 have hg : i < (grow l (i + 1)).length := by unfold grow;simp;omega
 have : M p (putL p l i k) = (M p (grow l (i + 1))).set i (T p ((grow l (i + 1)).getD i 0) + T p k) := by
  unfold putL M;rw [List.map_set,T_mod hp,T_add]
 rw [this,ev_set _ _ _ _ (by rw [M_length];exact hg),ev_grow,M_getD]
 grind
include hp in
theorem ev_puts (x : Fin p.toNat) (m l : List Int) : ∀ n,ev x (M p (putsL p m l n)) = ev x (M p m) + ev x ((M p l).take n)
 | 0 => by simp only [putsL,List.take_zero,ev];grind
 | n + 1 => by rw [putsL,ev_put hp,ev_puts x m l n,ev_take_succ,M_getD];grind
theorem M_take_all (l : List Int) : (M p l).take l.length = M p l := by rw [← M_length (p := p) l,List.take_length]
include hp in
theorem ev_addP (x : Fin p.toNat) (a b : List Int) : ev x (M p (addP p a b)) = ev x (M p a) + ev x (M p b) := by
 unfold addP
 rw [ev_puts hp,ev_puts hp,M_take_all,M_take_all]
 show ev x [] + _ + _ = _
 simp only [ev];grind
include hp in
theorem ev_row (x : Fin p.toNat) (m : List Int) (u : Int) (b : List Int) (i : Nat) : ∀ n,ev x (M p (rowL p m u b i n)) = ev x (M p m) + T p u * mono x i * ev x ((M p b).take n)
 | 0 => by simp only [rowL,List.take_zero,ev];grind
 | n + 1 => by
  rw [rowL,ev_put hp,ev_row x m u b i n,ev_take_succ,M_getD,T_mod hp,T_mul,mono_add,rd_nat];grind
include hp in
theorem ev_muls (x : Fin p.toNat) (a b : List Int) : ∀ n,ev x (M p (mulsL p a b n)) = ev x ((M p a).take n) * ev x (M p b)
 | 0 => by simp only [mulsL,List.take_zero,M,List.map_nil,ev];grind
 | n + 1 => by rw [mulsL,ev_row hp,ev_muls x a b n,M_take_all,ev_take_succ,M_getD,rd_nat];grind
include hp in
theorem ev_scaleL (x : Fin p.toNat) (k : Int) : ∀ l,ev x (M p (l.map fun v => k * v % p)) = T p k * ev x (M p l)
 | [] => by simp only [M,List.map_nil,ev];grind
 | c :: l => by
  have := ev_scaleL x k l
  simp only [M,List.map_cons,ev] at *
  rw [this,T_mod hp,T_mul];grind
include hp in
theorem M_nodup : ∀ {xs : List Int},(∀ x ∈ xs,Res p x) → xs.Nodup → (M p xs).Nodup
 | [],_,_ => List.nodup_nil
 | a :: xs,h,hn => by
  have hn' := List.nodup_cons.1 hn
  refine List.nodup_cons.2 ⟨fun hm => ?_,M_nodup (fun x hx => h x (List.mem_cons_of_mem _ hx)) hn'.2⟩
  obtain ⟨b,hb,e⟩ := List.mem_map.1 hm
  have := T_inj hp (h b (List.mem_cons_of_mem _ hb)) (h a (by simp)) e
  exact hn'.1 (this ▸ hb)
end
theorem uniq {p : Int} (hp : Supp p) {xs f g : List Int} (hx : ∀ x ∈ xs,Res p x) (hn : xs.Nodup) (hf : ∀ x ∈ f,Res p x) (hg : ∀ x ∈ g,Res p x) (lf : f.length ≤ xs.length) (lg : g.length ≤ xs.length)
  (h : ∀ x ∈ xs,evI p x f = evI p x g) : trimL f = trimL g := by
 haveI := nz hp
 have hb := hp.bd
 refine trimL_ext fun i => ?_
 have hz : ∀ {l : List Int},(∀ x ∈ l,Res p x) → Res p (l.getD i 0) := by
  intro l hl
  rw [List.getD_eq_getElem?_getD]
  by_cases hi : i < l.length
  ·rw [List.getElem?_eq_getElem hi];exact hl _ (List.getElem_mem hi)
  ·rw [List.getElem?_eq_none (by omega)];exact ⟨Int.le_refl 0,by show (0 : Int) < p;omega⟩
 refine T_inj hp (hz hf) (hz hg) ?_
 rw [← M_getD,← M_getD]
 refine unique (dom hp) (M p xs) (M p f) (M p g) (M_nodup hp hx hn) (by simp only [M_length];exact lf) (by simp only [M_length];exact lg) (fun y hy => ?_) i
 obtain ⟨x,hxx,rfl⟩ := List.mem_map.1 hy
 rw [← ev_evI hp,← ev_evI hp,h x hxx]
theorem mulsL_lin_length {p : Int} (f : List Int) (o : Int) : ∀ n,(mulsL p f [o,1] n).length ≤ n + 1 := by
 intro n
 induction n with
 | zero => simp [mulsL]
 | succ n ih =>
  show (rowL p (mulsL p f [o,1] n) (rd f n) [o,1] n 2).length ≤ _
  simp only [rowL,putL_length,Nat.add_zero];omega
section
variable {p : Int} (hp : Supp p) [NeZero p.toNat]
include hp in
theorem polS_ev (y : Fin p.toNat) (X : Int) : ∀ (l : List Int) (s : List Int × Int),
  ev y (M p (l.foldl (polStep p X) s).1) = ev y (M p s.1) * lin y (M p l) ∧ T p (l.foldl (polStep p X) s).2 = T p s.2 * lin (T p X) (M p l) ∧ (l.foldl (polStep p X) s).1.length ≤ s.1.length + l.length
 | [],s => ⟨by show _ = _ * 1;grind,by show _ = _ * 1;grind,by simp⟩
 | o :: l,s => by
  obtain ⟨h1,h2,h3⟩ := polS_ev y X l (polStep p X s o)
  have e1 : ev y (M p (polStep p X s o).1) = ev y (M p s.1) * (y - T p o) := by
   show ev y (M p (trimL (mulsL p s.1 [-o % p,1] s.1.length))) = _
   rw [ev_trimL,ev_muls hp,M_take_all]
   simp only [M,List.map_cons,List.map_nil,ev,T_mod hp,T_neg,T_one]
   grind
  have e2 : T p (polStep p X s o).2 = T p s.2 * (T p X - T p o) := by
   show T p (s.2 * ((X - o) % p) % p) = _
   rw [T_mod hp,T_mul,T_mod hp,T_sub]
  have e3 : (polStep p X s o).1.length ≤ s.1.length + 1 := Nat.le_trans (trimL_length _) (mulsL_lin_length s.1 _ _)
  simp only [List.foldl_cons,List.length_cons]
  rw [h1,h2,e1,e2]
  refine ⟨?_,?_,by omega⟩
  ·simp only [M,List.map_cons,lin];grind
  ·simp only [M,List.map_cons,lin];grind
end
theorem othersN_len (xs : List Int) (i : Nat) : ∀ n,(othersN xs i n).length = if i < n then n - 1 else n
 | 0 => rfl
 | n + 1 => by
  have ih := othersN_len xs i n
  unfold othersN
  by_cases h : n = i
  ·subst h;rw [if_pos rfl,ih,if_neg (by omega),if_pos (by omega)];omega
  ·rw [if_neg h,List.length_append,ih]
   by_cases h2 : i < n
   ·rw [if_pos h2,if_pos (by omega)];simp;omega
   ·rw [if_neg h2,if_neg (by omega)];simp
theorem othersN_has (xs : List Int) (i j : Nat) (hne : j ≠ i) : ∀ n,j < n → rd xs j ∈ othersN xs i n
 | n + 1,h => by
  unfold othersN
  by_cases hj : j = n
  ·subst hj;rw [if_neg hne];simp
  ·have := othersN_has xs i j hne n (by omega)
   split
   ·exact this
   ·exact List.mem_append_left _ this
theorem othersN_ne {xs : List Int} (hnd : xs.Nodup) (i : Nat) (hi : i < xs.length) (n : Nat) (hn : n ≤ xs.length) : ∀ o ∈ othersN xs i n,rd xs i ≠ o := by
 intro o ho
 obtain ⟨j,h1,h2,rfl⟩ := othersN_mem ho
 rw [rd_nat,rd_nat,Hw.getD_in _ _ hi,Hw.getD_in _ _ (by omega)]
 intro e
 rw [List.nodup_iff_pairwise_ne,List.pairwise_iff_getElem] at hnd
 rcases Nat.lt_trichotomy i j with h3|h3|h3
 ·exact hnd i j hi (by omega) h3 e
 ·exact h2 h3.symm
 ·exact hnd j i (by omega) hi h3 e.symm
theorem othersN_res {p : Int} {xs : List Int} (hx : ∀ x ∈ xs,Res p x) (i n : Nat) (hn : n ≤ xs.length) : ∀ o ∈ othersN xs i n,Res p o := by
 intro o ho
 obtain ⟨j,h1,_,rfl⟩ := othersN_mem ho
 exact rd_res' hx j (by omega)
section
variable {p : Int} (hp : Supp p) [NeZero p.toNat]
def sumF (f : Nat → Fin p.toNat) : Nat → Fin p.toNat
 | 0 => 0
 | n + 1 => sumF f n + f n
def oth (p : Int) [NeZero p.toNat] (xs : List Int) (i : Nat) : List (Fin p.toNat) := M p (othersN xs i xs.length)
def dinv (p : Int) [NeZero p.toNat] (xs : List Int) (i : Nat) : Fin p.toNat := T p (invp p (lagS p 0 xs i).2)
include hp in
theorem lagS_ev (a : Int) (X : Int) : ∀ (l : List Int) (s : Int × Int),
  T p (l.foldl (lagStep p a X) s).1 = T p s.1 * lin (T p a) (M p l) ∧ T p (l.foldl (lagStep p a X) s).2 = T p s.2 * lin (T p X) (M p l)
 | [],s => ⟨by show _ = _ * 1;grind,by show _ = _ * 1;grind⟩
 | o :: l,s => by
  obtain ⟨h1,h2⟩ := lagS_ev a X l (lagStep p a X s o)
  simp only [List.foldl_cons,M,List.map_cons,lin]
  rw [h1,h2]
  simp only [lagStep,M]
  rw [T_mod hp,T_mod hp,T_mul,T_mul,T_mod hp,T_mod hp,T_sub,T_sub]
  constructor <;> grind
include hp in
theorem dinv_spec {xs : List Int} (hx : ∀ x ∈ xs,Res p x) (hn : xs.Nodup) (i : Nat) (hi : i < xs.length) : lin (T p (rd xs i)) (oth p xs i) * dinv p xs i = 1 := by
 have hb := hp.bd
 obtain ⟨h1,h2,h3⟩ := lagS_ok hp (a := 0) hx hn i hi
 have h := (lagS_ev hp 0 (rd xs i) (othersN xs i xs.length) (1,1)).2
 have e := T_inv hp h2 h3
 have h' : T p (lagS p 0 xs i).2 = lin (T p (rd xs i)) (oth p xs i) := by
  unfold lagS oth;rw [h,T_one];grind
 rw [h'] at e
 exact e
include hp in
theorem polTerm_ev {pts : List S49} (hx : PtsOk p pts) (hn : (xsOf pts).Nodup) (i : Nat) (hi : i < pts.length) (y : Fin p.toNat) :
  ev y (M p (polTerm p pts i)) = T p (rd_T49 pts (i : Int)).f1 * (lin y (oth p (xsOf pts) i) * dinv p (xsOf pts) i) := by
 have hl : (xsOf pts).length = pts.length := by simp [xsOf]
 obtain ⟨h1,h2,h3⟩ := polS_ev hp y (rd_T49 pts (i : Int)).f0 (othersN (xsOf pts) i pts.length) ([1],1)
 obtain ⟨hr1,hr2,hlen,hD0⟩ := polS_ok hp hx hi hn
 have d := dinv_spec hp hx.xs hn i (by omega)
 have e := T_inv hp hr2 hD0
 unfold polTerm
 rw [ev_trimL,ev_scaleL hp,T_mod hp,T_mul]
 have e1 : ev y (M p (polS p pts i).1) = lin y (oth p (xsOf pts) i) := by
  unfold polS oth;rw [h1,hl];simp only [M,List.map_cons,List.map_nil,ev,T_one];grind
 have e2 : T p (polS p pts i).2 = lin (T p (rd (xsOf pts) i)) (oth p (xsOf pts) i) := by
  unfold polS oth;rw [h2,T_one,xsOf_rd pts i hi,hl];grind
 rw [e1]
 rw [e2] at e
 generalize lin (T p (rd (xsOf pts) i)) (oth p (xsOf pts) i) = D at *
 have : T p (invp p (polS p pts i).2) = dinv p (xsOf pts) i := by grind
 rw [this];grind
include hp in
theorem polSum_ev {pts : List S49} (hx : PtsOk p pts) (hn : (xsOf pts).Nodup) (y : Fin p.toNat) : ∀ n,n ≤ pts.length →
  ev y (M p (polSum p pts n)) = sumF (fun i => T p (rd_T49 pts (i : Int)).f1 * (lin y (oth p (xsOf pts) i) * dinv p (xsOf pts) i)) n
 | 0,_ => rfl
 | n + 1,h => by
  rw [polSum,ev_trimL,ev_addP hp,polSum_ev hx hn y n (by omega),polTerm_ev hp hx hn n (by omega) y];rfl
include hp in
theorem polTerm_len {pts : List S49} (i : Nat) (hi : i < pts.length) : (polTerm p pts i).length ≤ pts.length := by
 obtain ⟨h1,h2,h3⟩ := polS_ev hp 0 (rd_T49 pts (i : Int)).f0 (othersN (xsOf pts) i pts.length) ([1],1)
 rw [othersN_len,if_pos hi] at h3
 simp only [List.length_cons,List.length_nil] at h3
 refine Nat.le_trans (trimL_length _) ?_
 rw [List.length_map]
 unfold polS
 omega
include hp in
theorem polSum_len {pts : List S49} : ∀ n,n ≤ pts.length → (polSum p pts n).length ≤ pts.length
 | 0,_ => by simp [polSum]
 | n + 1,h => by
  have h1 := polSum_len (pts := pts) n (by omega)
  have h2 := polTerm_len hp (pts := pts) n (by omega)
  refine Nat.le_trans (trimL_length _) ?_
  rw [addP_length];omega
include hp in
theorem polL_ev {pts : List S49} (hx : PtsOk p pts) (hn : (xsOf pts).Nodup) (y : Fin p.toNat) :
  ev y (M p (polL p pts)) = sumF (fun i => T p (rd_T49 pts (i : Int)).f1 * (lin y (oth p (xsOf pts) i) * dinv p (xsOf pts) i)) pts.length := by
 unfold polL;rw [ev_trimL,polSum_ev hp hx hn y pts.length (Nat.le_refl _)]
end
theorem polL_res {p : Int} (hp : Supp p) {pts : List S49} (hx : PtsOk p pts) : ∀ x ∈ polL p pts,Res p x := fun x h => (polSum_ok hp hx pts.length (Nat.le_refl _)).1 x (trimL_mem h)
theorem polL_len {p : Int} (hp : Supp p) {pts : List S49} : (polL p pts).length ≤ pts.length := by
 haveI := nz hp
 exact Nat.le_trans (trimL_length _) (polSum_len hp pts.length (Nat.le_refl _))
theorem polL_trim (p : Int) (pts : List S49) : trimL (polL p pts) = polL p pts := trimL_trimL _
end Go.Proofs.Ytjnkkfdlcbcelaa.E
end
section
namespace Go.Proofs.Ytjnkkfdlcbcelaa.Hw
open Go.RowKit Go.Proofs.Ytjnkkfdlcbcelaa.Pr Go.Proofs.YtjnkkfdlcbcelaaW.PrintWords Go.Proofs.YtjnkkfdlcbcelaaW.PrintLast Go.Proofs.YtjnkkfdlcbcelaaW.PrintMore Go.Proofs.Ytjnkkfdlcbcelaa.E
def fitRun (t : Nat) : Nat → List S49 → Int → List S49
 | 0,all,_ => all
 | k + 1,all,x => if all.length ≤ t then (if x ∈ xsOf all then fitRun t k all (x + 1) else fitRun t k (all ++ [⟨x,0⟩]) (x + 1)) else all
def fitAll (p : Int) (t : Nat) (pts : List S49) (s : Int) : List S49 := fitRun t (t + 1) (⟨0,s⟩ :: pts) 1
def fitL (p : Int) (t : Nat) (pts : List S49) (s : Int) : List Int := polL p (fitAll p t pts s) ++ List.replicate (t + 1 - (polL p (fitAll p t pts s)).length) 0
structure FitI (p : Int) (t : Nat) (all : List S49) (x : Nat) : Prop where
 ok : PtsOk p all
 nd : (xsOf all).Nodup
 hd : ∃ m,xsOf all = 0 :: m
 len : all.length ≤ t + 1
 cov : ∀ y : Nat,y < x → (y : Int) ∈ xsOf all
theorem sub_len : ∀ (l m : List Int),l.Nodup → (∀ x ∈ l,x ∈ m) → l.length ≤ m.length
 | [],m,_,_ => Nat.zero_le _
 | a :: l,m,hn,h => by
  have hn' := List.nodup_cons.1 hn
  have ha := h a (by simp)
  have h1 := sub_len l (m.erase a) hn'.2 (fun x hx => (List.mem_erase_of_ne (fun e => hn'.1 (by rw [← e];exact hx))).2 (h x (List.mem_cons_of_mem _ hx)))
  rw [List.length_erase_of_mem ha] at h1
  have := List.length_pos_of_mem ha
  simp only [List.length_cons];omega
theorem nat_list_nodup (x : Nat) : ((List.range x).map fun (i : Nat) => (i : Int)).Nodup := by
 refine List.Pairwise.map _ (fun a b h => ?_) (List.nodup_range (n := x))
 intro e;exact h (by omega)
theorem FitI.xlen {p : Int} {t : Nat} {all : List S49} {x : Nat} (h : FitI p t all x) : x ≤ all.length := by
 have := sub_len ((List.range x).map fun (i : Nat) => (i : Int)) (xsOf all) (nat_list_nodup x) (fun y hy => by
  obtain ⟨i,hi,rfl⟩ := List.mem_map.1 hy
  exact h.cov i (List.mem_range.1 hi))
 simpa [xsOf] using this
theorem fit_start {p : Int} (hp : Supp p) {t : Nat} {pts : List S49} (hx : PtsOk p pts) (hnd : (0 :: xsOf pts).Nodup) (hl : pts.length ≤ t) {s : Int} (hs : Res p s) : FitI p t ([(⟨0,s⟩ : S49)] ++ pts) 1 := by
 have hb := hp.bd
 have e : xsOf ([(⟨0,s⟩ : S49)] ++ pts) = 0 :: xsOf pts := rfl
 refine ⟨fun y hy => ?_,by rw [e];exact hnd,⟨_,e⟩,by simp;omega,fun y hy => ?_⟩
 ·rcases List.mem_append.1 hy with h|h
  ·simp only [List.mem_cons,List.not_mem_nil,or_false] at h
   rw [h];exact ⟨⟨Int.le_refl 0,by show (0 : Int) < p;omega⟩,hs⟩
  ·exact hx y h
 ·rw [e,show y = 0 from by omega];simp
theorem FitI.skip {p : Int} {t : Nat} {all : List S49} {x : Nat} (h : FitI p t all x) (hx : (x : Int) ∈ xsOf all) : FitI p t all (x + 1) :=
 ⟨h.ok,h.nd,h.hd,h.len,fun y hy => by
  by_cases e : y = x
  ·rw [e];exact hx
  ·exact h.cov y (by omega)⟩
theorem FitI.add {p : Int} (hp : Supp p) {t : Nat} {all : List S49} {x : Nat} (h : FitI p t all x) (hx : (x : Int) ∉ xsOf all) (hlt : all.length ≤ t) (htp : (t : Int) < p) : FitI p t (all ++ [(⟨(x : Int),0⟩ : S49)]) (x + 1) := by
 have hb := hp.bd
 have hxl := h.xlen
 have e : xsOf (all ++ [(⟨(x : Int),0⟩ : S49)]) = xsOf all ++ [(x : Int)] := by simp [xsOf]
 obtain ⟨m,hm⟩ := h.hd
 refine ⟨fun y hy => ?_,?_,⟨m ++ [(x : Int)],by rw [e,hm];rfl⟩,by simp;omega,fun y hy => ?_⟩
 ·rcases List.mem_append.1 hy with h1|h1
  ·exact h.ok y h1
  ·simp only [List.mem_cons,List.not_mem_nil,or_false] at h1
   rw [h1];exact ⟨⟨by show (0 : Int) ≤ x;omega,by show (x : Int) < p;omega⟩,⟨Int.le_refl 0,by show (0 : Int) < p;omega⟩⟩
 ·rw [e];exact List.nodup_append.2 ⟨h.nd,by simp,fun a ha b hb e => by simp only [List.mem_cons,List.not_mem_nil,or_false] at hb;subst hb;subst e;exact hx ha⟩
 ·rw [e]
  by_cases e2 : y = x
  ·rw [e2];simp
  ·exact List.mem_append_left _ (h.cov y (by omega))
theorem C_of_owns {w : World} {base : Nat} {v : Value} {L : List S49} {inner : List Value} (h : w.ownsRow base 49 2 v L.length inner) (hr : Reps (fun (x : S49) cs => cs = [.int .u64 x.f0,.int .u64 x.f1]) 2 L inner) (hn : 0 < L.length) (hm : L.length ≤ 9223372036854775807) :
  ∃ A c,v = .slice A L.length c ∧ L.length ≤ c ∧ Kd.C k49 w A L.length L := by
 rcases h.2 with ⟨_,h0⟩|⟨g,cap,cur,rfl,_,hh,hcap,_,hcs,htk⟩
 ·omega
 ·refine ⟨some ⟨g,0,none⟩,cap,rfl,hcap,rfl,hm,fun _ => ⟨⟨g,0,none⟩,rfl,fun j x hj => ?_⟩⟩
  have hj' := hr.2 j x hj
  refine ⟨[.int .u64 x.f0,.int .u64 x.f1],rfl,k49_mk _ _,fun i u hu => ?_⟩
  rw [← hj',List.getElem?_take] at hu
  split at hu
  ·rw [List.getElem?_drop] at hu
   exact h.cells (by simp [Value.ownBlock]) _ u hu
  ·cases hu
section
variable {ops : Array Oper} {rest : List Oper} {o : Oper} {a : Act} {Q : Exit → Act → World → Prop}
theorem wp_append_pt {W : World} (hgd : o.guard = none) (s x : Operand) (ho : o.op = .call { callee := .builtin .append,args := #[s,x],argTypes := #[47,47] }) {A : Option Addr} {L : List S49} {X Y : Int}
  (hs : a.eval s = .slice A L.length L.length) (hx : a.eval x = .slice (some ⟨W.heap.size,0,none⟩) 1 1) (hC : Kd.C k49 W A L.length L) (hn : 0 < L.length) (hl : L.length ≤ 1000000)
  (h : ∀ v1 w1,(∃ A' c',v1 = .slice A' (L ++ [(⟨X,Y⟩ : S49)]).length c' ∧ (L ++ [(⟨X,Y⟩ : S49)]).length ≤ c' ∧ Kd.C k49 w1 A' (L ++ [(⟨X,Y⟩ : S49)]).length (L ++ [(⟨X,Y⟩ : S49)])) → Below W.heap.size W w1 → wpList Try.prog ops Q rest (a.put o.dst v1) w1) :
  wpList Try.prog ops Q (o :: rest) a (W.alloc (.cells #[.int .u64 X,.int .u64 Y] 49)) := by
 obtain ⟨i0,hi,hzz⟩ := Option.map_eq_some_iff.1 info49
 simp only [Prod.mk.injEq] at hzz
 obtain ⟨hz0,hz1,hz2⟩ := hzz
 obtain ⟨ad,rfl,_⟩ := hC.2.2 hn
 obtain ⟨inner,hr,hc⟩ := ReadsRow.inner_ (Kd.C_alloc hC (.cells #[.int .u64 X,.int .u64 Y] 49))
 have hil : inner.length = L.length * 2 := hr.1
 refine wpList_append_grows _ hgd s x 47 ho 49 i0 _ 2 16 Try.underlying47 hi hz0 hz1 hz2 rfl (by decide) (some ad) L.length L.length inner hs (fun e => by cases e) hil (fun b e j u hu => by cases e;exact hc j u hu)
  ⟨W.heap.size,0,none⟩ 1 1 [.int .u64 X,.int .u64 Y] hx rfl (World.news_of_block (cs := #[.int .u64 X,.int .u64 Y]) (t := 49) (fr := (0,0)) (heap_alloc_new W _)) (by intro u hu;simp only [List.mem_cons,List.not_mem_nil,or_false] at hu;rcases hu with rfl|rfl <;> rfl) (by omega) (by simp only [maxLen];omega) (by omega) ?_
 intro v1 w1 hown hg
 refine h v1 w1 ?_ ?_
 ·have hR : Reps (fun (x : S49) cs => cs = [.int .u64 x.f0,.int .u64 x.f1]) 2 (L ++ [(⟨X,Y⟩ : S49)]) (inner ++ [.int .u64 X,.int .u64 Y]) := by
   refine ⟨by simp [hil];omega,fun j p hj => ?_⟩
   by_cases hlt : j < L.length
   ·rw [List.getElem?_append_left hlt] at hj
    have h1 := k49_open (hr.2 j p hj)
    rw [← h1,List.drop_append_of_le_length (by omega),List.take_append_of_le_length (by simp;omega)]
    rfl
   ·have hjl := (List.getElem?_eq_some_iff.1 hj).1
    have : j = L.length := by simp at hjl;omega
    subst this
    rw [List.getElem?_append_right (Nat.le_refl _),Nat.sub_self] at hj
    simp only [List.getElem?_cons_zero,Option.some.injEq] at hj
    rw [← hj,← hil,List.drop_left];rfl
  have hlen : (L ++ [(⟨X,Y⟩ : S49)]).length = L.length + 1 := by simp
  refine C_of_owns (inner := inner ++ [.int .u64 X,.int .u64 Y]) (base := (W.alloc (.cells #[.int .u64 X,.int .u64 Y] 49)).heap.size) ?_ hR (by omega) (by omega)
  rw [hlen];exact hown
 ·exact (below_alloc (Below.refl _ _) _).grown hg (by show _ ≤ (Array.push _ _).size;rw [Array.size_push];omega) (fun k hk => by cases hk)
end
theorem fit_probe {p : Int} {t : Nat} {all : List S49} {x : Nat} (hI : FitI p t all x) (hlt : all.length ≤ t) (ht : t ≤ 48) {A5 : Option Addr} {c5 : Nat} {w5 : World} (hC : Kd.C k49 w5 A5 (all ++ [(⟨(x : Int),0⟩ : S49)]).length (all ++ [(⟨(x : Int),0⟩ : S49)])) (hc : (all ++ [(⟨(x : Int),0⟩ : S49)]).length ≤ c5) (b : Bool) (hb : decide ((x : Int) ∉ xsOf all) = b) :
  Calls Try.prog 38 #[.slice (Option.map (fun a => { block := a.block,off := a.off + 2 }) A5) all.length (c5 - 1)] w5 fun e w' => e = .returned (.bool b) ∧ Below w5.heap.size w5 w' := by
 have hx : (xsOf all).length = all.length := by simp [xsOf]
 obtain ⟨m,hm⟩ := hI.hd
 have hpos : 0 < all.length := by rw [hm] at hx;simp at hx;omega
 have hl : (all ++ [(⟨(x : Int),0⟩ : S49)]).length = all.length + 1 := by simp
 obtain ⟨M,hM⟩ : ∃ M,M = (all ++ [(⟨(x : Int),0⟩ : S49)]).drop 1 := ⟨_,rfl⟩
 have hML : M.length = all.length := by rw [hM,List.length_drop,hl];omega
 have hC2 := Kd.C_drop (m := 1) (c := c5) hC (by omega) hc
 rw [if_neg (by omega),← hM] at hC2
 have hA : Option.map (fun a => a.add (1 * (k49).sz)) A5 = Option.map (fun a => { block := a.block,off := a.off + 2 }) A5 := by cases A5 <;> rfl
 rw [hA] at hC2
 have h := placed_walk (Option.map (fun a => { block := a.block,off := a.off + 2 }) A5) (c5 - 1) M (by omega) w5 hC2 (by omega)
 have hxs : 0 :: xsOf M = xsOf all ++ [(x : Int)] := by
  have e1 : xsOf (all ++ [(⟨(x : Int),0⟩ : S49)]) = xsOf all ++ [(x : Int)] := by simp [xsOf]
  have e2 : xsOf M = (xsOf all ++ [(x : Int)]).drop 1 := by rw [← e1,hM];unfold xsOf;rw [List.map_drop]
  rw [e2,hm];rfl
 rw [hxs,hML] at h
 have hd : decide (xsOf all ++ [(x : Int)]).Nodup = decide ((x : Int) ∉ xsOf all) := by
  refine decide_eq_decide.2 ⟨fun hn hx => (List.nodup_append.1 hn).2.2 _ hx _ (by simp) rfl,fun hn => List.nodup_append.2 ⟨hI.nd,by simp,fun a ha b hb e => by simp only [List.mem_cons,List.not_mem_nil,or_false] at hb;subst hb;subst e;exact hn ha⟩⟩
 rw [hd,hb] at h
 exact h
set_option maxHeartbeats 2000000 in
set_option maxRecDepth 100000 in
theorem fit_walk {p : Int} (hp : Supp p) (t : Nat) (ht : t ≤ 48) (htp : (t : Int) < p) (A : Option Addr) (c : Nat) (pts : List S49) (hx : PtsOk p pts) (hnd : (0 :: xsOf pts).Nodup) (hl : pts.length ≤ t) (s : Int) (hs : Res p s) (w : World) (hr : Kd.C k49 w A pts.length pts) (hc : pts.length ≤ c) :
  Calls Try.prog 29 #[.int .u64 p,.int .i64 (t : Int),.slice A pts.length c,.int .u64 s] w fun e w' => ∃ v0_ : Value,e = .returned (.tuple #[v0_,.int .i64 0]) ∧ Kd.R (Kd.int .u64) 22 w' w.heap.size (fun _ => True) v0_ (fitL p t pts s) ∧ Below w.heap.size w w' := by
 have hpb := hp.bd
 have HP := Aside0.mk (placed_walk A c pts (by omega) w hr hc)
 have hd0 : decide (0 :: xsOf pts).Nodup = true := decide_eq_true hnd
 rw [hd0] at HP
 have HX := Aside0.mk hx
 have HND := Aside0.mk hnd
 have HR := Aside0.mk hr
 have g1 : decide ((t : Int) < 0) = false := decide_eq_false (by omega)
 have g2 : decide ((t : Int) < (pts.length : Int)) = false := decide_eq_false (by omega)
 have g3 : IntKind.u64.wrap (t : Int) = (t : Int) := wrapU_id (by omega) (by omega)
 have g4 : decide (p ≤ (t : Int)) = false := decide_eq_false (by omega)
 clear hx hnd hr hd0
 go_enter Try.func29,Try.ntmps29
 go_wp2_with (first
  | (go_at_call 38;(with_reducible refine HP.out.mono ?_);rintro e w1 ⟨rfl,hb1⟩;have HB1 := Aside0.mk hb1;clear hb1)
  | ((with_reducible refine gate_dst (N := 36) rfl ?_);(try (refine gate_guard (by rfl) ?_;dsimp only));refine Kd.R_lit k49 _ 49 ?hg (N := 36) ?hd (xs := ([(⟨0,s⟩ : S49)] : List (S49))) (inner := [.int .u64 0,.int .u64 s]) (ok := fun _ => True) (okp := fun _ => True) ?hr ?hp (fun _ hk => hk) trivial (Below.refl _ _) (Nat.le_refl _) (by simp) ?_;(case hd => rfl);(case hg => rfl);(case hr => first|(go_simp;done)|(go_simp;rfl));(case hp => exact (Reps.c2 (show Kd.M k49 _ _ _ (⟨0,s⟩ : S49) [.int .u64 0,.int .u64 s] from (k49_mkM _ _ _ (⟨0,s⟩ : S49) )) (Reps.none _ _)));intro v2 w2 ho2 hb2 hg2 hn2;have HO2 := Aside0.mk (Kd.R_lower ho2 (below_size HB1.out));have HB2 := Aside0.mk (below_step HB1.out hb2);clear ho2 hb2 hg2 hn2)
  | ((with_reducible refine gate_builtin (b := .append) (xs := #[.tmp 36,.tmp 37]) rfl ?_);at_builtin;refine Kd.R_append_rows k49 (w0 := w) w.heap.size rfl (.tmp 36) (.tmp 37) 47 49 (.agg #[(.int .u64 0),(.int .u64 0)]) 16 rfl Try.underlying47 info49 rfl (by decide) (by omega) v2 [(⟨0,s⟩ : S49)] pts A _ _ (fun _ => True) (fun _ => False) rfl rfl HO2.out (Kd.C_below HR.out HB2.out) (fun x cs hk => by rw [k49_open hk];exact k49_mkM _ _ _ _) (fun _ h => h.elim) (fun _ _ => trivial) HB2.out (below_size HB2.out) (by simp;omega) ?_;intro v3 w3 ho3 hb3 hg3 ha3;have HO3 := Aside0.mk ho3;have HB3 := Aside0.mk hb3;clear ho3 hb3 hg3 ha3))
 clear HO2 HB2 HB1
 obtain ⟨A3,c3,e3,hc3,hC3⟩ := Kd.R_reads HO3.out
 cases e3
 have HC3 := Aside0.mk hC3
 have HI0 := Aside0.mk (fit_start hp HX.out HND.out hl hs)
 clear hC3 HO3
 go_loopg [10,11] (t + 1) (fun kq v10 v11 w' => ∃ (all : List S49) (x : Nat) (A' : Option Addr) (c' : Nat),v10 = .slice A' all.length c' ∧ v11 = .int .u64 (x : Int) ∧ Aside0 (all.length ≤ c' ∧ Kd.C k49 w' A' all.length all) ∧ Aside0 (FitI p t all x) ∧ Aside0 (kq + x = t + 2) ∧ Aside0 (fitRun t kq all x = fitAll p t pts s) ∧ Aside0 (Below w.heap.size w w'))
 case atStart => exact ⟨_,1,_,_,rfl,rfl,⟨hc3,HC3.out⟩,HI0,⟨by omega⟩,⟨rfl⟩,HB3⟩
 case round =>
  clear HC3 HI0 HB3
  obtain ⟨all,x,A',c',rfl,rfl,HC,HI,HK,HF,HB⟩ := hrel
  by_cases hlt : all.length ≤ t
  ·have q1 : ((all.length : Int) ≤ (t : Int)) = True := eq_true (by omega)
   have q2 : (0 : Int) ≤ (all.length : Int) := by omega
   obtain ⟨hcl,hCC⟩ := HC.out
   have hpos : 0 < all.length := by
    obtain ⟨m,e⟩ := HI.out.hd
    have : (xsOf all).length = all.length := by simp [xsOf]
    rw [e] at this;simp at this;omega
   obtain ⟨ad,e1,_⟩ := hCC.2.2 hpos
   cases e1
   have q3 : ((all.length : Int) ≤ (c' : Int)) = True := eq_true (by omega)
   have HCC := Aside0.mk hCC
   clear hCC
   have hxl := HI.out.xlen
   have hw : IntKind.u64.wrap ((x : Int) + 1) = ((x + 1 : Nat) : Int) := by rw [wrapU_id (by omega) (by omega)];omega
   obtain ⟨g,rfl⟩ : ∃ g,gk = g + 1 := ⟨gk - 1,by have := HK.out;omega⟩
   have hf := HF.out
   rw [fitRun,if_pos hlt] at hf
   by_cases hxm : (x : Int) ∈ xsOf all
   ·have hd1 : decide ((x : Int) ∉ xsOf all) = false := decide_eq_false (fun h => h hxm)
    rw [if_pos hxm] at hf
    have HF2 := Aside0.mk hf
    have HI2 := Aside0.mk (HI.out.skip hxm)
    have HD1 := Aside0.mk hd1
    clear hxm hf hd1
    go_wp2_with (first
     | ((with_reducible refine gate_builtin (b := .append) (xs := #[.tmp 50,.tmp 53]) rfl ?_);at_builtin;refine wp_append_pt rfl (.tmp 50) (.tmp 53) rfl (A := some ad) (L := all) (X := x) (Y := 0) rfl rfl HCC.out hpos (by omega) ?_;rintro v5 w5 ⟨A5,c5,rfl,hc5,hC5⟩ hb5;have hpl := fit_probe HI.out hlt ht hC5 hc5 _ HD1.out;have q5 : (c5 = 1) = False := eq_false (by have h5 := hc5;rw [List.length_append] at h5;simp only [List.length_cons,List.length_nil] at h5;omega);have HB5 := Aside0.mk hb5;have HPl := Aside0.mk hpl;clear hC5 hb5 hc5 hpl)
     | (go_at_call 38;(with_reducible refine HPl.out.mono ?_);rintro e w6 ⟨rfl,hb6⟩;have HB6 := Aside0.mk (below_step HB5.out hb6);clear hb6))
    go_roundg g
    case measure => omega
    case rel => exact ⟨all,x + 1,some ad,c',rfl,by rw [Int.natCast_add] <;> rfl,⟨hcl,Kd.C_below HCC.out HB6.out⟩,HI2,⟨by have := HK.out;omega⟩,⟨by rw [← HF2.out];congr 1⟩,⟨below_step HB.out HB6.out⟩⟩
   ·have hd1 : decide ((x : Int) ∉ xsOf all) = true := decide_eq_true hxm
    rw [if_neg hxm] at hf
    have HF2 := Aside0.mk hf
    have HI2 := Aside0.mk (HI.out.add hp hxm hlt htp)
    have HD1 := Aside0.mk hd1
    clear hxm hf hd1
    go_wp2_with (first
     | ((with_reducible refine gate_builtin (b := .append) (xs := #[.tmp 50,.tmp 53]) rfl ?_);at_builtin;refine wp_append_pt rfl (.tmp 50) (.tmp 53) rfl (A := some ad) (L := all) (X := x) (Y := 0) rfl rfl HCC.out hpos (by omega) ?_;rintro v5 w5 ⟨A5,c5,rfl,hc5,hC5⟩ hb5;have hpl := fit_probe HI.out hlt ht hC5 hc5 _ HD1.out;have q5 : (c5 = 1) = False := eq_false (by have h5 := hc5;rw [List.length_append] at h5;simp only [List.length_cons,List.length_nil] at h5;omega);have HC5 := Aside0.mk (And.intro hc5 hC5);have HB5 := Aside0.mk hb5;have HPl := Aside0.mk hpl;clear hC5 hb5 hc5 hpl)
     | (go_at_call 38;(with_reducible refine HPl.out.mono ?_);rintro e w6 ⟨rfl,hb6⟩;have HB6 := Aside0.mk (below_step HB5.out hb6);have HC6 := Aside0.mk (And.intro HC5.out.1 (Kd.C_below HC5.out.2 hb6));clear hb6))
    go_roundg g
    case measure => omega
    case rel => exact ⟨all ++ [(⟨(x : Int),0⟩ : S49)],x + 1,A5,c5,by simp,by rw [Int.natCast_add] <;> rfl,HC6,HI2,⟨by have := HK.out;omega⟩,⟨by rw [← HF2.out];congr 1⟩,⟨below_step HB.out HB6.out⟩⟩
  ·have q1 : decide ((all.length : Int) ≤ (t : Int)) = false := decide_eq_false (by omega)
   have hal : all.length = t + 1 := by have := HI.out.len;omega
   have hall : all = fitAll p t pts s := by
    rw [← HF.out]
    cases gk with
    | zero => rfl
    | succ g => rw [fitRun,if_neg hlt]
   have hpf : interpolate_Polynomial.f p all = some (polL p all,0) := by
    unfold interpolate_Polynomial.f
    rw [if_pos (supB_iff.2 hp),if_pos (ptsB_iff.2 HI.out.ok),if_pos (by omega),if_pos HI.out.nd,if_pos HI.out.nd]
   have hP := interpolate_Polynomial.calls p A' c' all (polL p all) 0 wr HC.out.2 HC.out.1 hpf
   have hpl : (polL p all).length ≤ t + 1 := by have := polL_len hp (pts := all);omega
   obtain ⟨f,hf⟩ : ∃ f,f = polL p all := ⟨_,rfl⟩
   rw [← hf] at hP hpl
   have HP2 := Aside0.mk hP
   have HFin := Aside0.mk (show fitL p t pts s = f ++ List.replicate (t + 1 - f.length) 0 from by unfold fitL;rw [← hall,← hf])
   have HAL := Aside0.mk hal
   clear hP hall hpf hf HF hal
   go_wp2_with (first
    | (go_at_call 39;(with_reducible refine HP2.out.mono ?_);rintro e w4 ⟨v4,rfl,ho4,hb4⟩;have HO4 := Aside0.mk (Kd.R_lower ho4 (below_size HB.out));have HB4 := Aside0.mk (below_step HB.out hb4);clear ho4 hb4;obtain ⟨A4,c4,e4⟩ := Kd.R_slice HO4.out;subst e4)
    | ((with_reducible refine gate_builtin (b := .append) (xs := #[.tmp 68,.tmp 73]) rfl ?_);at_builtin;refine Kd.R_append_zeros (Kd.int .u64) (w0 := w) w.heap.size rfl (.tmp 68) (.tmp 73) 41 3 22 (.int .u64 0) 8 rfl Try.underlying41 (k := .i64) Try.underlying3 info22 rfl (by decide) (by omega) (.slice A4 f.length c4) f (0 : Int) (kx := .i64) ((t : Int) + 1 - (f.length : Int)) (fun _ => True) rfl rfl rfl (fun _ _ => trivial) HO4.out (by omega) HB4.out (below_size HB4.out) (by omega) ?_;intro v6 w6 ho6 hb6 hg6 ha6;have HO6 := Aside0.mk ho6;have HB6 := Aside0.mk hb6;clear ho6 hb6 hg6 ha6))
   first|go_ret2|((try simp only [Exit.inBlock,Exit.then]);refine bodyPost_ret (results_tmp2 rfl _ _ _) rfl ?_)
   refine ⟨_,rfl,?_,HB6.out⟩
   rw [HFin.out,show t + 1 - f.length = ((t : Int) + 1 - (f.length : Int)).toNat from by omega]
   exact HO6.out
set_option maxHeartbeats 2000000 in
set_option maxRecDepth 100000 in
theorem fit_err {p : Int} (t : Int) (t0 : -9223372036854775808 ≤ t) (t1 : t < 9223372036854775808) (A : Option Addr) (c : Nat) (pts : List S49) (hlp : pts.length ≤ 1000000) (s : Int) (w : World) (hr : Kd.C k49 w A pts.length pts) (hc : pts.length ≤ c)
  (hbad : t < 0 ∨ ¬ (0 :: xsOf pts).Nodup ∨ t < (pts.length : Int) ∨ p ≤ t) :
  Calls Try.prog 29 #[.int .u64 p,.int .i64 t,.slice A pts.length c,.int .u64 s] w fun e w' => ∃ v0_ : Value,e = .returned (.tuple #[v0_,.int .i64 1]) ∧ Kd.R (Kd.int .u64) 22 w' w.heap.size (fun _ => True) v0_ [] ∧ Below w.heap.size w w' := by
 have HP := Aside0.mk (placed_walk A c pts (by omega) w hr hc)
 by_cases h1 : t < 0
 ·have g1 : decide (t < 0) = true := decide_eq_true h1
  clear hbad
  go_enter Try.func29,Try.ntmps29
  go_wp2
  first|go_ret2|((try simp only [Exit.inBlock,Exit.then]);refine bodyPost_ret (results_tmp2 rfl _ _ _) rfl ?_)
  exact ⟨_,rfl,Kd.R_nil _ _ _ _ _,Below.refl _ _⟩
 ·have g1 : decide (t < 0) = false := decide_eq_false h1
  by_cases h2 : (0 :: xsOf pts).Nodup
  ·have hd : decide (0 :: xsOf pts).Nodup = true := decide_eq_true h2
   rw [hd] at HP
   by_cases h3 : t < (pts.length : Int)
   ·have g3 : decide (t < (pts.length : Int)) = true := decide_eq_true h3
    clear hbad h2 hd
    go_enter Try.func29,Try.ntmps29
    go_wp2_with (first|(go_at_call 38;(with_reducible refine HP.out.mono ?_);rintro e w1 ⟨rfl,hb1⟩;have HB1 := Aside0.mk hb1;clear hb1))
    first|go_ret2|((try simp only [Exit.inBlock,Exit.then]);refine bodyPost_ret (results_tmp2 rfl _ _ _) rfl ?_)
    exact ⟨_,rfl,Kd.R_nil _ _ _ _ _,HB1.out⟩
   ·have g3 : decide (t < (pts.length : Int)) = false := decide_eq_false h3
    have h4 : p ≤ t := by
     rcases hbad with h|h|h|h
     ·exact absurd h h1
     ·exact absurd h2 h
     ·exact absurd h h3
     ·exact h
    have g4 : IntKind.u64.wrap t = t := wrapU_id (by omega) (by omega)
    have g5 : decide (p ≤ t) = true := decide_eq_true h4
    clear hbad h2 hd
    go_enter Try.func29,Try.ntmps29
    go_wp2_with (first|(go_at_call 38;(with_reducible refine HP.out.mono ?_);rintro e w1 ⟨rfl,hb1⟩;have HB1 := Aside0.mk hb1;clear hb1))
    first|go_ret2|((try simp only [Exit.inBlock,Exit.then]);refine bodyPost_ret (results_tmp2 rfl _ _ _) rfl ?_)
    exact ⟨_,rfl,Kd.R_nil _ _ _ _ _,HB1.out⟩
  ·have hd : decide (0 :: xsOf pts).Nodup = false := decide_eq_false h2
   rw [hd] at HP
   clear hbad h2 hd
   go_enter Try.func29,Try.ntmps29
   go_wp2_with (first|(go_at_call 38;(with_reducible refine HP.out.mono ?_);rintro e w1 ⟨rfl,hb1⟩;have HB1 := Aside0.mk hb1;clear hb1))
   first|go_ret2|((try simp only [Exit.inBlock,Exit.then]);refine bodyPost_ret (results_tmp2 rfl _ _ _) rfl ?_)
   exact ⟨_,rfl,Kd.R_nil _ _ _ _ _,HB1.out⟩
def fitBad (p t : Int) (pts : List S49) : Bool := decide (t < 0) || (!decide (0 :: xsOf pts).Nodup || (decide (t < (pts.length : Int)) || decide (p ≤ t)))
theorem fitBad_iff {p t : Int} {pts : List S49} : fitBad p t pts = true ↔ (t < 0 ∨ ¬ (0 :: xsOf pts).Nodup ∨ t < (pts.length : Int) ∨ p ≤ t) := by
 unfold fitBad
 simp only [Bool.or_eq_true,decide_eq_true_eq,Bool.not_eq_true',decide_eq_false_iff_not]
def shamir_FitSecret.f (a0 a1 : Int) (l2 : List S49) (a3 : Int) : Option (List Int × Int) :=
 if supB a0 = true then (if ptsB a0 l2 = true then (if resB a0 a3 = true then (if l2.length ≤ 1000000 then (if -9223372036854775808 ≤ a1 then (if a1 < 9223372036854775808 then
  (if fitBad a0 a1 l2 = true then some ([],1) else (if a1 ≤ 48 then some (fitL a0 a1.toNat l2 a3,0) else none)) else none) else none) else none) else none) else none) else none
theorem shamir_FitSecret.calls (a0 a1 : Int) (A2 : Option Addr) (c2 : Nat) (l2 : List S49) (a3 : Int) (r1 : List Int) (r2 : Int) (w : World) (hr2 : Kd.C k49 w A2 l2.length l2) (hc2 : l2.length ≤ c2) (h : shamir_FitSecret.f a0 a1 l2 a3 = some (r1,r2)) :
  Calls Try.prog 29 #[.int .u64 a0,.int .i64 a1,.slice A2 l2.length c2,.int .u64 a3] w fun e w' => ∃ v0_ : Value,e = .returned (.tuple #[v0_,.int .i64 r2]) ∧ Kd.R (Kd.int .u64) 22 w' w.heap.size (fun _ => True) v0_ r1 ∧ Below w.heap.size w w' := by
 unfold shamir_FitSecret.f at h
 obtain ⟨h1,h⟩ := ifs h
 obtain ⟨h2,h⟩ := ifs h
 obtain ⟨h3,h⟩ := ifs h
 obtain ⟨h4,h⟩ := ifs h
 obtain ⟨h5,h⟩ := ifs h
 obtain ⟨h6,h⟩ := ifs h
 by_cases hb : fitBad a0 a1 l2 = true
 ·rw [if_pos hb] at h
  have h := Option.some.inj h
  rw [← (Prod.mk.inj h).1,← (Prod.mk.inj h).2]
  exact fit_err a1 h5 h6 A2 c2 l2 h4 a3 w hr2 hc2 (fitBad_iff.1 hb)
 ·rw [if_neg hb] at h
  obtain ⟨h7,h⟩ := ifs h
  have h := Option.some.inj h
  rw [← (Prod.mk.inj h).1,← (Prod.mk.inj h).2]
  have hn : ¬ (a1 < 0 ∨ ¬ (0 :: xsOf l2).Nodup ∨ a1 < (l2.length : Int) ∨ a0 ≤ a1) := fun hx => hb (fitBad_iff.2 hx)
  have e : ((a1.toNat : Nat) : Int) = a1 := Int.toNat_of_nonneg (by omega)
  have hg := fit_walk (supB_of h1) a1.toNat (by omega) (by omega) A2 c2 l2 (ptsB_iff.1 h2) (Classical.byContradiction fun hx => hn (Or.inr (Or.inl hx))) (by omega) a3 (resB_iff.1 h3) w hr2 hc2
  rw [e] at hg
  exact hg
end Go.Proofs.Ytjnkkfdlcbcelaa.Hw
end
