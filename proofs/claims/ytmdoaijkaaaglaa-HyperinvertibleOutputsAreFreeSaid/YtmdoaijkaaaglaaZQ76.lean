/- Part 6 of the proof's texts, joined in build order. -/
import Derived.Test.YtmdoaijkaaaglaaZQ74
import Derived.Test.YtmdoaijkaaaglaaZQ75
import Derived.Test.YtmdoaijkaaaglaaZQ71
import Derived.Lib.Hide
import Derived.Deep.RegionHeld3
import Derived.Test.YtmdoaijkaaaglaaProg
import Derived.MapKept
import Derived.Maps.Own
import Derived.Test.YtmdoaijkaaaglaaZQ70
set_option linter.unusedVariables false
set_option linter.unusedSimpArgs false
section
namespace Go.Proofs.Ytmdoaijkaaaglaa.Hw
open Go.RowKit Go.Proofs.Ytmdoaijkaaaglaa.Pr Go.Proofs.YtmdoaijkaaaglaaW.PrintWords Go.Proofs.YtmdoaijkaaaglaaW.PrintLast Go.Proofs.YtmdoaijkaaaglaaW.PrintMore Go.Proofs.Ytmdoaijkaaaglaa.E
theorem less_eq (a b : Int) : cmp_Less_uint64.f a b = some (decide (a < b)) := by
 unfold cmp_Less_uint64.f cmp_isNaN_uint64.f
 simp
theorem w64 {n : Int} (h0 : -9223372036854775808 ≤ n) (h1 : n < 9223372036854775808) : wrap64 n = n := by unfold wrap64;omega
theorem rd_nat (l : List Int) (i : Nat) : rd l (i : Int) = l.getD i 0 := by unfold rd;rw [Int.toNat_natCast]
theorem getD_in (l : List Int) (i : Nat) (h : i < l.length) : l.getD i 0 = l[i] := by rw [List.getD_eq_getElem?_getD,List.getElem?_eq_getElem h];rfl
theorem getD_set (l : List Int) (i j : Nat) (v : Int) (h : j < l.length) : (l.set i v).getD j 0 = if i = j then v else l.getD j 0 := by
 rw [getD_in _ _ (by simpa using h),List.getElem_set,getD_in _ _ h]
def Ord (l : List Int) (i j : Nat) : Prop := ∀ p q,p < q → q ≤ i → q ≠ j → l.getD p 0 ≤ l.getD q 0
theorem ins_ends : ∀ (m i j : Nat) (x : List Int),x.length ≤ 1099511627776 → i < x.length → j ≤ i → Ord x i j → (x.length - i) * (x.length + 2) + j < m →
  ∃ k r,slices_insertionSortOrdered_uint64.l1 k x 0 (x.length : Int) (i : Int) (j : Int) = some r ∧ r.Perm x ∧ (∀ p q,p < q → q < r.length → r.getD p 0 ≤ r.getD q 0) := by
 intro m
 induction m with
 | zero => intro i j x _ _ _ _ h;omega
 | succ m ih =>
  intro i j x hx hi hj ho hm
  have next : (∀ p q,p < q → q ≤ i → x.getD p 0 ≤ x.getD q 0) → ∃ k r,slices_insertionSortOrdered_uint64.l0 k x 0 (x.length : Int) (wrap64 ((i : Int) + 1)) = some r ∧ r.Perm x ∧ (∀ p q,p < q → q < r.length → r.getD p 0 ≤ r.getD q 0) := by
   intro hs
   rw [w64 (by omega) (by omega)]
   by_cases hlt : i + 1 < x.length
   ·obtain ⟨k,r,h1,h2,h3⟩ := ih (i + 1) (i + 1) x hx hlt (Nat.le_refl _) (fun p q hpq hq hne => hs p q hpq (by omega)) (by
     have : (x.length - (i + 1)) * (x.length + 2) + (x.length + 2) = (x.length - i) * (x.length + 2) := by
      rw [← Nat.succ_mul];congr 1;omega
     omega)
    refine ⟨k + 1,r,?_,h2,h3⟩
    simp only [slices_insertionSortOrdered_uint64.l0]
    rw [if_pos (by omega),show (i : Int) + 1 = ((i + 1 : Nat) : Int) from by omega]
    exact h1
   ·refine ⟨1,x,?_,List.Perm.refl _,fun p q hpq hq => hs p q hpq (by omega)⟩
    simp only [slices_insertionSortOrdered_uint64.l0]
    rw [if_neg (by omega)]
  by_cases hj0 : j = 0
  ·subst hj0
   obtain ⟨k,r,h1,h2,h3⟩ := next (fun p q hpq hq => ho p q hpq hq (by omega))
   refine ⟨k + 1,r,?_,h2,h3⟩
   simp only [slices_insertionSortOrdered_uint64.l1]
   rw [if_neg (by omega)]
   exact h1
  ·obtain ⟨t,rfl⟩ : ∃ t,j = t + 1 := ⟨j - 1,by omega⟩
   have e1 : wrap64 (((t + 1 : Nat) : Int) - 1) = (t : Int) := by rw [w64 (by omega) (by omega)];omega
   by_cases hlt : x.getD (t + 1) 0 < x.getD t 0
   ·have hl2 : ((x.set (t + 1) (x.getD t 0)).set t (x.getD (t + 1) 0)).length = x.length := by simp
    have hg : ∀ p,p < x.length → ((x.set (t + 1) (x.getD t 0)).set t (x.getD (t + 1) 0)).getD p 0 = if p = t then x.getD (t + 1) 0 else if p = t + 1 then x.getD t 0 else x.getD p 0 := by
     intro p hp
     rw [getD_set _ _ _ _ (by simpa using hp),getD_set _ _ _ _ hp]
     by_cases a : t = p
     ·subst a;rw [if_pos rfl,if_pos rfl]
     ·have a' : ¬ p = t := fun h => a h.symm
      rw [if_neg a,if_neg a']
      by_cases b : t + 1 = p
      ·subst b;rw [if_pos rfl]
      ·have b' : ¬ p = t + 1 := fun h => b h.symm
       rw [if_neg b,if_neg b']
    obtain ⟨k,r,h1,h2,h3⟩ := ih i t ((x.set (t + 1) (x.getD t 0)).set t (x.getD (t + 1) 0)) (by rw [hl2];exact hx) (by rw [hl2];exact hi) (by omega) (by
     intro p q hpq hq hne
     rw [hg p (by omega),hg q (by omega)]
     have o1 := ho t (t + 1)
     by_cases a : p = t
     ·rw [if_pos a]
      rw [if_neg hne]
      by_cases b : q = t + 1
      ·rw [if_pos b];omega
      ·rw [if_neg b];exact ho (t + 1) q (by omega) hq b
     ·rw [if_neg a,if_neg hne]
      by_cases a2 : p = t + 1
      ·rw [if_pos a2,if_neg (by omega)];exact ho t q (by omega) hq (by omega)
      ·rw [if_neg a2]
       by_cases b : q = t + 1
       ·rw [if_pos b];exact ho p t (by omega) (by omega) (by omega)
       ·rw [if_neg b];exact ho p q hpq hq b) (by rw [hl2];omega)
    rw [hl2] at h1
    refine ⟨k + 1,r,?_,h2.trans ?_,h3⟩
    ·simp only [slices_insertionSortOrdered_uint64.l1]
     rw [e1,if_pos (by omega),if_pos (by omega),if_pos (by omega),if_pos (by omega),if_pos (by omega),less_eq,rd_nat,rd_nat]
     simp only [Option.bind_some]
     rw [if_pos (by simpa using hlt),Int.toNat_natCast,Int.toNat_natCast]
     exact h1
    ·rw [getD_in _ _ (by omega : t < x.length),getD_in _ _ (by omega : t + 1 < x.length)]
     exact List.set_set_perm (by omega) (by omega)
   ·obtain ⟨k,r,h1,h2,h3⟩ := next (fun p q hpq hq => by
     by_cases a : q = t + 1
     ·subst a
      by_cases b : p = t
      ·subst b;omega
      ·have := ho p t (by omega) (by omega) (by omega);omega
     ·exact ho p q hpq hq a)
    refine ⟨k + 1,r,?_,h2,h3⟩
    simp only [slices_insertionSortOrdered_uint64.l1]
    rw [e1,if_pos (by omega),if_pos (by omega),if_pos (by omega),if_pos (by omega),if_pos (by omega),less_eq,rd_nat,rd_nat]
    simp only [Option.bind_some]
    rw [if_neg (by simpa using hlt)]
    exact h1
theorem ins_sorts (x : List Int) (hx : x.length ≤ 1099511627776) : ∃ k r,slices_insertionSortOrdered_uint64.f k x 0 (x.length : Int) = some r ∧ r.Perm x ∧ (∀ p q,p < q → q < r.length → r.getD p 0 ≤ r.getD q 0) := by
 unfold slices_insertionSortOrdered_uint64.f
 rw [w64 (by omega) (by omega)]
 by_cases h : 1 < x.length
 ·obtain ⟨k,r,h1,h2,h3⟩ := ins_ends _ 1 1 x hx h (Nat.le_refl _) (fun p q hpq hq hne => by omega) (Nat.lt_succ_self _)
  refine ⟨k + 1,r,?_,h2,h3⟩
  simp only [slices_insertionSortOrdered_uint64.l0]
  rw [if_pos (by omega)]
  exact h1
 ·refine ⟨1,x,?_,List.Perm.refl _,fun p q hpq hq => by omega⟩
  simp only [slices_insertionSortOrdered_uint64.l0]
  rw [if_neg (by omega)]
theorem diff_iff {r : List Int} (hs : ∀ p q,p < q → q < r.length → r.getD p 0 ≤ r.getD q 0) : Diff r r.length ↔ r.Nodup := by
 constructor
 ·intro h
  rw [List.nodup_iff_pairwise_ne,List.pairwise_iff_getElem]
  intro i j hi hj hij
  have h1 := h i (by omega)
  rw [show (i : Int) + 1 = ((i + 1 : Nat) : Int) from by omega,rd_nat,rd_nat] at h1
  have h2 := hs i (i + 1) (by omega) (by omega)
  rw [← getD_in _ _ hi,← getD_in _ _ hj]
  by_cases e : j = i + 1
  ·subst e;omega
  ·have := hs (i + 1) j (by omega) hj;omega
 ·intro h i hi
  rw [List.nodup_iff_pairwise_ne,List.pairwise_iff_getElem] at h
  rw [show (i : Int) + 1 = ((i + 1 : Nat) : Int) from by omega,rd_nat,rd_nat,getD_in _ _ hi,getD_in _ _ (by omega : i < r.length)]
  exact fun e => h i (i + 1) (by omega) hi (by omega) e.symm
set_option maxHeartbeats 1000000 in
set_option maxRecDepth 100000 in
theorem unlike_calls (A : Option Addr) (c : Nat) (l : List Int) (w : World) (hr : Kd.C (Kd.int .u64) w A l.length l) (hc : l.length ≤ c) (hl : l.length ≤ 12) :
  Calls Try.prog 59 #[.slice A l.length c] w fun e w' => e = .returned (.bool (decide l.Nodup)) ∧ Below w.heap.size w w' := by
 obtain ⟨k,r,h1,h2,h3⟩ := ins_sorts l (by omega)
 have hlen : bits_Len.f 3 (l.length : Int) = some (([0,1,2,2,3,3,3,3,4,4,4,4,4] : List Int).getD l.length 0) := by
  have h : l.length = 0 ∨ l.length = 1 ∨ l.length = 2 ∨ l.length = 3 ∨ l.length = 4 ∨ l.length = 5 ∨ l.length = 6 ∨ l.length = 7 ∨ l.length = 8 ∨ l.length = 9 ∨ l.length = 10 ∨ l.length = 11 ∨ l.length = 12 := by omega
  rcases h with h|h|h|h|h|h|h|h|h|h|h|h|h <;> rw [h] <;> exact (by first|rfl|decide +kernel)
 have hrl : r.length = l.length := h2.length_eq
 have HD := Aside0.mk ((diff_iff h3).trans h2.nodup_iff)
 have HR := Aside0.mk hrl
 have HL := Aside0.mk hlen
 have H1 := Aside0.mk h1
 have hcl := Aside0.mk (clone_u64 A c l w hr hc (by omega))
 clear h1 h2 h3 hr hrl hlen
 obtain ⟨b,hb⟩ : ∃ b : Bool,b = decide l.Nodup := ⟨_,rfl⟩
 rw [← hb]
 have HBb := Aside0.mk hb
 clear hb
 go_enter Try.func59,Try.ntmps59
 go_wp2_with (first
  | (go_at_call 76;(with_reducible refine hcl.out.mono ?_);rintro e w1 ⟨v0,rfl,ho,hb1⟩;obtain ⟨A1,c1,rfl⟩ := Kd.R_slice ho;have hso := Aside0.mk (sort_small k 3 (fun _ => True) A1 c1 l r _ hl w w1 hb1 ho H1.out HL.out);clear ho hb1)
  | (go_at_call 89;(with_reducible refine hso.out.mono ?_);rintro e w2 ⟨rfl,ho,hb2⟩;rw [← HR.out] at ho;have hco := Aside0.mk (compact_u64 A1 c1 r (by rw [HR.out];omega) w w2 hb2 ho);rw [HR.out] at hco;clear ho hb2)
  | (go_at_call 90;(with_reducible refine hco.out.mono ?_);rintro e w3 ⟨hex,hb3⟩;obtain ⟨⟨A3,m,c3,rfl,hm⟩⟩ := hex;have HM := Aside0.mk hm;have HB3 := Aside0.mk hb3;clear hm hb3))
 go_ret
 refine ⟨?_,HB3.out⟩
 have e : ((m : Int) == (l.length : Int)) = b := by
  rw [HBb.out,Bool.eq_iff_iff,beq_iff_eq,decide_eq_true_iff,← HD.out,HR.out,← HM.out]
  omega
 rw [e]
 rfl
end Go.Proofs.Ytmdoaijkaaaglaa.Hw
end
section
namespace Go.Proofs.Ytmdoaijkaaaglaa.Hw
open Go.RowKit Go.Proofs.Ytmdoaijkaaaglaa.Pr Go.Proofs.YtmdoaijkaaaglaaW.PrintWords Go.Proofs.YtmdoaijkaaaglaaW.PrintLast Go.Proofs.YtmdoaijkaaaglaaW.PrintMore Go.Sort Go.Proofs.Ytmdoaijkaaaglaa.Srt
theorem extract_all (l : List Int) (n : Nat) (h : n = l.length) : (l.toArray.extract 0 n).toList = l := by
 subst h
 simp
theorem pdq_perm (l : List Int) : (pdq ltInt l.toArray 0 l.length (bitsLen l.length) true true).toList.Perm l ∧
  (∀ p q,p < q → q < (pdq ltInt l.toArray 0 l.length (bitsLen l.length) true true).toList.length → (pdq ltInt l.toArray 0 l.length (bitsLen l.length) true true).toList.getD p 0 ≤ (pdq ltInt l.toArray 0 l.length (bitsLen l.length) true true).toList.getD q 0) := by
 obtain ⟨⟨h1,h2,h3⟩,h4⟩ := pdq_sorts ltInt swo l.toArray 0 l.length (bitsLen l.length) true true (Nat.zero_le _) (by rw [List.size_toArray];exact Nat.le_refl _) (Or.inl rfl)
 obtain ⟨T,hT⟩ : ∃ T,T = pdq ltInt l.toArray 0 l.length (bitsLen l.length) true true := ⟨_,rfl⟩
 rw [← hT] at h1 h2 h3 h4 ⊢
 clear hT
 obtain ⟨t⟩ := T
 rw [List.size_toArray,List.size_toArray] at h1
 rw [extract_all l _ rfl,extract_all t _ h1.symm] at h3
 refine ⟨h3,fun p q hpq hq => ?_⟩
 have hq' : q < t.length := hq
 have := h4 p q (Nat.zero_le _) hpq (by omega)
 rw [← srd,← srd,rd_nat,rd_nat] at this
 exact Int.not_lt.mp (fun hlt => by rw [show ltInt (t.getD q 0) (t.getD p 0) = decide (t.getD q 0 < t.getD p 0) from rfl,decide_eq_true hlt] at this;exact absurd this (by decide))
set_option maxHeartbeats 1000000 in
set_option maxRecDepth 100000 in
theorem sort_big (A : Option Addr) (c : Nat) (l : List Int) (hl : l.length < 50) (h0 : 0 < l.length) (w0 w : World) (hB : RowKit.Below w0.heap.size w0 w) (ho : Kd.R (Kd.int .u64) 22 w w0.heap.size (fun _ => True) (.slice A l.length c) l) :
  Calls Try.prog 89 #[.slice A l.length c] w fun e w' => e = .returned (.tuple #[]) ∧ Kd.R (Kd.int .u64) 22 w' w0.heap.size (fun _ => True) (.slice A l.length c) (pdq ltInt l.toArray 0 l.length (bitsLen l.length) true true).toList ∧ RowKit.Below w0.heap.size w0 w' := by
 obtain ⟨g,q,hv,hb0,how⟩ := R_open ho h0
 cases hv
 have HO := Aside0.mk (show Own w w0.heap.size g c l.length l from ⟨rfl,how⟩)
 have HB := Aside0.mk hB
 have HL := Aside0.mk (len_tab l.length hl)
 have hb62 : bitsLen l.length ≤ 62 := by
  have : ∀ n,n < 50 → bitsLen n ≤ 62 := by decide +kernel
  exact this _ hl
 clear ho how hB
 go_enter Try.func89,Try.ntmps89
 go_wp2_with (first
  | (go_at_call 103;(refine (bits_Len.calls 3 _ _ _ HL.out).mono ?_);rintro e w' ⟨rfl,⟨nd,rfl⟩⟩;have hq := pdq_all g c l.length w0 hl l.length l 0 l.length (bitsLen l.length) (w.drewN nd) (by omega) (Nat.zero_le _) (Nat.le_refl _) hb62 ⟨rfl,pw_own_drewN HO.out.2 nd⟩ (pw_below_drewN HB.out nd);rw [show ((0 : Nat) : Int) = 0 from rfl] at hq;have hc := Aside0.mk hq;clear hq)
  | (go_at_call 102;(with_reducible refine hc.out.mono ?_);rintro e w' ⟨rfl,H1,H2⟩))
 first|go_end0|((try simp only [Exit.inBlock,Exit.then]);refine bodyPost_ret (results_none rfl _ _ _) rfl ?_)
 exact ⟨rfl,H1.out.R,H2.out⟩
set_option maxHeartbeats 1000000 in
set_option maxRecDepth 100000 in
theorem unlike_big (A : Option Addr) (c : Nat) (l : List Int) (w : World) (hr : Kd.C (Kd.int .u64) w A l.length l) (hc : l.length ≤ c) (hl : l.length ≤ 49) :
  Calls Try.prog 59 #[.slice A l.length c] w fun e w' => e = .returned (.bool (decide l.Nodup)) ∧ RowKit.Below w.heap.size w w' := by
 by_cases h12 : l.length ≤ 12
 ·exact unlike_calls A c l w hr hc h12
 obtain ⟨h2,h3⟩ := pdq_perm l
 obtain ⟨r,hr0⟩ : ∃ r,r = (pdq ltInt l.toArray 0 l.length (bitsLen l.length) true true).toList := ⟨_,rfl⟩
 have hso0 := fun A1 c1 w1 hB ho => sort_big A1 c1 l (by omega) (by omega) w w1 hB ho
 rw [← hr0] at h2 h3 hso0
 clear hr0
 have hrl : r.length = l.length := h2.length_eq
 have HS := Aside0.mk hso0
 have HD := Aside0.mk ((diff_iff h3).trans h2.nodup_iff)
 have HR := Aside0.mk hrl
 have hcl := Aside0.mk (clone_u64 A c l w hr hc (by omega))
 clear h2 h3 hr hrl hso0
 obtain ⟨b,hb⟩ : ∃ b : Bool,b = decide l.Nodup := ⟨_,rfl⟩
 rw [← hb]
 have HBb := Aside0.mk hb
 clear hb
 go_enter Try.func59,Try.ntmps59
 go_wp2_with (first
  | (go_at_call 76;(with_reducible refine hcl.out.mono ?_);rintro e w1 ⟨v0,rfl,ho,hb1⟩;obtain ⟨A1,c1,rfl⟩ := Kd.R_slice ho;have hso := Aside0.mk (HS.out A1 c1 w1 hb1 ho);clear ho hb1)
  | (go_at_call 89;(with_reducible refine hso.out.mono ?_);rintro e w2 ⟨rfl,ho,hb2⟩;rw [← HR.out] at ho;have hco := Aside0.mk (compact_u64 A1 c1 r (by rw [HR.out];omega) w w2 hb2 ho);rw [HR.out] at hco;clear ho hb2)
  | (go_at_call 90;(with_reducible refine hco.out.mono ?_);rintro e w3 ⟨hex,hb3⟩;obtain ⟨⟨A3,m,c3,rfl,hm⟩⟩ := hex;have HM := Aside0.mk hm;have HB3 := Aside0.mk hb3;clear hm hb3))
 go_ret
 refine ⟨?_,HB3.out⟩
 have e : ((m : Int) == (l.length : Int)) = b := by
  rw [HBb.out,Bool.eq_iff_iff,beq_iff_eq,decide_eq_true_iff,← HD.out,HR.out,← HM.out]
  omega
 rw [e]
 rfl
end Go.Proofs.Ytmdoaijkaaaglaa.Hw
end
section
namespace Go.Proofs.Ytmdoaijkaaaglaa.Hw
open Go.RowKit Go.Proofs.Ytmdoaijkaaaglaa.Pr Go.Proofs.YtmdoaijkaaaglaaW.PrintWords Go.Proofs.YtmdoaijkaaaglaaW.PrintLast Go.Proofs.YtmdoaijkaaaglaaW.PrintMore Go.Proofs.Ytmdoaijkaaaglaa.E
theorem rd_res' {p : Int} {l : List Int} (hl : ∀ x ∈ l,Res p x) (i : Nat) (hi : i < l.length) : Res p (rd l i) := by
 have e : rd l i = l[i] := by unfold rd;rw [Int.toNat_natCast,List.getD_eq_getElem?_getD,List.getElem?_eq_getElem hi];rfl
 rw [e];exact hl _ (List.getElem_mem _)
theorem mul_ne' {p : Int} (hp : Supp p) {a b : Int} (ha : Res p a) (h0 : a ≠ 0) (hb : Res p b) (h1 : b ≠ 0) : a * b % p ≠ 0 := by
 intro h
 have e := inv_spec hp ha h0
 have e2 : invp p a * (a * b) % p = b := by
  rw [← Int.mul_assoc,Int.mul_comm (invp p a),mulm (a' := 1) (b' := b) (by rw [e];have := hp.bd;exact (Int.emod_eq_of_lt (by omega) (by omega)).symm) rfl,Int.one_mul,hb.eq]
 rw [mulm (a := invp p a) (b := a * b) (b' := 0) rfl (by rw [h];simp),Int.mul_zero,Int.zero_emod] at e2
 exact h1 e2.symm
theorem sub_ne' {p : Int} (hp : Supp p) {a b : Int} (ha : Res p a) (hb : Res p b) (h : a ≠ b) : (a - b) % p ≠ 0 := by
 intro h0
 have h2 := Int.emod_emod_of_dvd
 have hd : p ∣ a - b := Int.dvd_of_emod_eq_zero h0
 obtain ⟨k,hk⟩ := hd
 obtain ⟨a0,a1⟩ := ha
 obtain ⟨b0,b1⟩ := hb
 have hk0 : k = 0 := by
  rcases Int.lt_trichotomy k 0 with h3|h3|h3
  ·have : p * k ≤ p * (-1) := Int.mul_le_mul_of_nonneg_left (by omega) (by omega)
   omega
  ·exact h3
  ·have : p * 1 ≤ p * k := Int.mul_le_mul_of_nonneg_left (by omega) (by omega)
   omega
 subst hk0
 simp at hk
 omega
def Box (w : World) (b : Nat) (x : Int) : Prop := w.heap[b]? = some (.cells #[.int .u64 x] 22 (0,0))
theorem Box.cell {w : World} {b : Nat} {x : Int} (h : Box w b x) : w.cell? ⟨b,0,none⟩ = some (.int .u64 x) := blk_cell h 0
theorem Box.frozen {w : World} {b : Nat} {x : Int} (h : Box w b x) : w.frozen? ⟨b,0,none⟩ = false := blk_frozen h 0
theorem Box.drewN {w : World} {b : Nat} {x : Int} (h : Box w b x) (n : Nat) : Box (w.drewN n) b x := h
theorem Box.far {w : World} {b : Nat} {x : Int} (h : Box w b x) {g : Nat} (hne : b ≠ g) (v : Value) : Box (w.setCell ⟨g,0,none⟩ v) b x := blk_far (p := ⟨g,0,none⟩) h hne v
theorem Box.put {w : World} {b : Nat} {x : Int} (h : Box w b x) (y : Int) : Box (w.setCell ⟨b,0,none⟩ (.int .u64 y)) b y := blk_put h 0 _ rfl
set_option maxHeartbeats 1000000 in
theorem lagc_calls {p : Int} (hp : Supp p) {n a d x o : Int} (hn : Res p n) (ha : Res p a) (hd : Res p d) (hx : Res p x) (ho : Res p o) (bp bn ba bd bx : Nat) (w : World)
  (hbp : Box w bp p) (hbn : Box w bn n) (hba : Box w ba a) (hbd : Box w bd d) (hbx : Box w bx x) (n1 : bp ≠ bn) (n2 : bp ≠ bd) (n3 : ba ≠ bn) (n5 : bx ≠ bn) (n7 : bn ≠ bd) :
  Calls Try.prog 61 #[.int .u64 o,.pointer (some ⟨bp,0,none⟩),.pointer (some ⟨bn,0,none⟩),.pointer (some ⟨ba,0,none⟩),.pointer (some ⟨bd,0,none⟩),.pointer (some ⟨bx,0,none⟩)] w
   fun e w' => e = .returned (.tuple #[]) ∧ ∃ i j,w' = (((w.drewN i).setCell ⟨bn,0,none⟩ (.int .u64 (n * ((a - o) % p) % p))).drewN j).setCell ⟨bd,0,none⟩ (.int .u64 (d * ((x - o) % p) % p)) := by
 obtain ⟨k1,hk1⟩ := (sub_ev hp ha ho).rounds
 obtain ⟨k2,hk2⟩ := (mul_ev hp hn (Res.mod hp (a - o))).rounds
 obtain ⟨k3,hk3⟩ := (sub_ev hp hx ho).rounds
 obtain ⟨k4,hk4⟩ := (mul_ev hp hd (Res.mod hp (x - o))).rounds
 have HK1 := Aside0.mk hk1
 have HK2 := Aside0.mk hk2
 have HK3 := Aside0.mk hk3
 have HK4 := Aside0.mk hk4
 have c1 := hbp.cell
 have c2 := hbn.cell
 have c3 := hba.cell
 have f2 := hbn.frozen
 clear hk1 hk2 hk3 hk4
 go_enter Try.func61,Try.ntmps61
 go_wp2
 refine wp_region_quiet_tail_drawn 7 (by kernel_rfl) (by kernel_rfl) ?_
 simp only [List.take_succ_cons,List.take_zero,List.drop_succ_cons,List.drop_zero]
 repeat (quiet_step (first|(go_at_call 44;refine Calls.quiet_of ((field_Sub.calls k1 _ _ _ ((a - o) % p) _ HK1.out).mono fun e w' h => ⟨h.1,h.2.out⟩))|(go_at_call 27;refine Calls.quiet_of ((field_Mul.calls k2 _ _ _ (n * ((a - o) % p) % p) _ HK2.out).mono fun e w' h => ⟨h.1,h.2.out⟩))))
 refine wpQuiet_nil ?_
 rintro _ ⟨nq,rfl⟩
 go_wp2
 have hW : ∃ W,W = (w.drewN nq).setCell ⟨bn,0,none⟩ (.int .u64 (n * ((a - o) % p) % p)) := ⟨_,rfl⟩
 obtain ⟨W,hW⟩ := hW
 rw [← hW]
 have d1 : W.cell? ⟨bp,0,none⟩ = some (.int .u64 p) := by rw [hW];exact ((hbp.drewN nq).far n1 _).cell
 have d4 : W.cell? ⟨bd,0,none⟩ = some (.int .u64 d) := by rw [hW];exact ((hbd.drewN nq).far (Ne.symm n7) _).cell
 have d5 : W.cell? ⟨bx,0,none⟩ = some (.int .u64 x) := by rw [hW];exact ((hbx.drewN nq).far n5 _).cell
 have g4 : W.frozen? ⟨bd,0,none⟩ = false := by rw [hW];exact ((hbd.drewN nq).far (Ne.symm n7) _).frozen
 have HW := Aside0.mk hW
 clear hW c1 c2 c3 f2
 refine wp_region_quiet_tail_drawn 7 (by kernel_rfl) (by kernel_rfl) ?_
 simp only [List.take_succ_cons,List.take_zero,List.drop_succ_cons,List.drop_zero]
 repeat (quiet_step (first|(go_at_call 44;refine Calls.quiet_of ((field_Sub.calls k3 _ _ _ ((x - o) % p) _ HK3.out).mono fun e w' h => ⟨h.1,h.2.out⟩))|(go_at_call 27;refine Calls.quiet_of ((field_Mul.calls k4 _ _ _ (d * ((x - o) % p) % p) _ HK4.out).mono fun e w' h => ⟨h.1,h.2.out⟩))))
 refine wpQuiet_nil ?_
 rintro _ ⟨nr,rfl⟩
 go_wp2
 go_end0
 rw [HW.out]
 exact ⟨rfl,nq,nr,rfl⟩
def othersN (xs : List Int) (but : Nat) : Nat → List Int
 | 0 => []
 | n + 1 => if n = but then othersN xs but n else othersN xs but n ++ [rd xs n]
set_option maxHeartbeats 1000000 in
theorem others_lag {σ : Type} (I : σ → World → Prop) (step : σ → Int → σ) (bp bn ba bd bx : Nat) (A : Option Addr) (c : Nat) (xs : List Int) (but : Nat) (hb : but < 1099511627776) (hl : xs.length ≤ 1099511627776)
  (hread : ∀ s w,I s w → Kd.C (Kd.int .u64) w A xs.length xs)
  (hcall : ∀ s w i,i < xs.length → i ≠ but → I s w → Calls Try.prog 61 #[.int .u64 (rd xs i),.pointer (some ⟨bp,0,none⟩),.pointer (some ⟨bn,0,none⟩),.pointer (some ⟨ba,0,none⟩),.pointer (some ⟨bd,0,none⟩),.pointer (some ⟨bx,0,none⟩)] w fun e w' => e = .returned (.tuple #[]) ∧ Aside0 (I (step s (rd xs i)) w'))
  (s : σ) (w : World) (hI : I s w) :
  Calls Try.prog 60 #[.slice A xs.length c,.int .i64 (but : Int),.func (.func 61) #[] #[.pointer (some ⟨bp,0,none⟩),.pointer (some ⟨bn,0,none⟩),.pointer (some ⟨ba,0,none⟩),.pointer (some ⟨bd,0,none⟩),.pointer (some ⟨bx,0,none⟩)]] w
   fun e w' => e = .returned (.tuple #[]) ∧ Aside0 (I ((othersN xs but xs.length).foldl step s) w') := by
 have HI := Aside0.mk hI
 have HR := Aside0.mk hread
 have HC := Aside0.mk hcall
 clear hI hread hcall
 go_enter Try.func60,Try.ntmps60
 go_wp2
 go_loopg [10] xs.length (fun kq v10 w' => ∃ (n : Nat),v10 = .int .i64 n ∧ Aside0 (kq + n = xs.length) ∧ Aside0 (I ((othersN xs but n).foldl step s) w'))
 case atStart => exact ⟨0,rfl,⟨rfl⟩,HI⟩
 case round =>
  obtain ⟨n,rfl,HK,HS⟩ := hrel
  clear HI
  by_cases hlt : n < xs.length
  ·have p1 : ((0 : Int) ≤ (n : Int)) = True := eq_true (by omega)
   have q1 : ((n : Int) < (xs.length : Int)) = True := eq_true (by omega)
   obtain ⟨ad,e1,hx⟩ := Kd.at_int (HR.out _ _ HS.out) (n : Int) (by omega) (by omega)
   cases e1
   rw [Int.toNat_natCast] at hx
   by_cases hnb : n = but
   ·have t1 : ((n : Int) != (but : Int)) = false := by rw [hnb];simp
    have HNB := Aside0.mk hnb
    clear hnb
    go_wp2
    go_roundg (xs.length - (n + 1))
    case measure => have := HK.out;omega
    case rel =>
     refine ⟨n + 1,by go_num,⟨by omega⟩,⟨?_⟩⟩
     rw [othersN,if_pos HNB.out];exact HS.out
   ·have t1 : ((n : Int) != (but : Int)) = true := by rw [bne_iff_ne];omega
    have hc := Aside0.mk (HC.out _ _ n hlt hnb HS.out)
    go_wp2_with (first|(go_at_call 61;(with_reducible refine hc.out.mono ?_);rintro e w' ⟨rfl,HS2⟩))
    go_roundg (xs.length - (n + 1))
    case measure => have := HK.out;omega
    case rel =>
     refine ⟨n + 1,by go_num,⟨by omega⟩,⟨?_⟩⟩
     rw [othersN,if_neg hnb,List.foldl_append];exact HS2.out
  ·have hd : decide ((n : Int) < (xs.length : Int)) = false := decide_eq_false (by omega)
   have hn : n = xs.length := by have := HK.out;omega
   subst hn
   go_wp2
   go_end0
   exact ⟨rfl,HS⟩
def lagStep (p a x : Int) (s : Int × Int) (o : Int) : Int × Int := (s.1 * ((a - o) % p) % p,s.2 * ((x - o) % p) % p)
def lagS (p a : Int) (xs : List Int) (i : Nat) : Int × Int := (othersN xs i xs.length).foldl (lagStep p a (rd xs i)) (1,1)
def lagW (p a : Int) (xs : List Int) (i : Nat) : Int := (lagS p a xs i).1 * invp p (lagS p a xs i).2 % p
def lagL (p a : Int) (xs : List Int) : Nat → List Int
 | 0 => []
 | n + 1 => lagL p a xs n ++ [lagW p a xs n]
theorem lagL_length (p a : Int) (xs : List Int) : ∀ n,(lagL p a xs n).length = n
 | 0 => rfl
 | n + 1 => by rw [lagL,List.length_append,lagL_length p a xs n];rfl
theorem lag_fold {p : Int} (hp : Supp p) {a x : Int} (hx : Res p x) : ∀ (l : List Int) (s : Int × Int),(∀ o ∈ l,Res p o) → Res p s.1 → Res p s.2 →
  Res p (l.foldl (lagStep p a x) s).1 ∧ Res p (l.foldl (lagStep p a x) s).2 ∧ ((∀ o ∈ l,x ≠ o) → s.2 ≠ 0 → (l.foldl (lagStep p a x) s).2 ≠ 0)
 | [],s,_,h1,h2 => ⟨h1,h2,fun _ h => h⟩
 | o :: l,s,hl,h1,h2 => by
  have ih := lag_fold hp (a := a) hx l (lagStep p a x s o) (fun y hy => hl y (List.mem_cons_of_mem _ hy)) (Res.mod hp _) (Res.mod hp _)
  refine ⟨ih.1,ih.2.1,fun hne h0 => ih.2.2 (fun y hy => hne y (List.mem_cons_of_mem _ hy)) ?_⟩
  exact mul_ne' hp h2 h0 (Res.mod hp _) (sub_ne' hp hx (hl o (by simp)) (hne o (by simp)))
theorem othersN_mem {xs : List Int} {i : Nat} : ∀ {n : Nat} {o : Int},o ∈ othersN xs i n → ∃ j,j < n ∧ j ≠ i ∧ o = rd xs j
 | 0,o,h => by cases h
 | n + 1,o,h => by
  unfold othersN at h
  split at h
  ·obtain ⟨j,h1,h2⟩ := othersN_mem h;exact ⟨j,by omega,h2⟩
  ·rcases List.mem_append.1 h with h|h
   ·obtain ⟨j,h1,h2⟩ := othersN_mem h;exact ⟨j,by omega,h2⟩
   ·exact ⟨n,by omega,by assumption,by simpa using h⟩
theorem lagS_ok {p : Int} (hp : Supp p) {a : Int} {xs : List Int} (hx : ∀ x ∈ xs,Res p x) (hn : xs.Nodup) (i : Nat) (hi : i < xs.length) : Res p (lagS p a xs i).1 ∧ Res p (lagS p a xs i).2 ∧ (lagS p a xs i).2 ≠ 0 := by
 have hb := hp.bd
 have h := lag_fold hp (a := a) (rd_res' hx i hi) (othersN xs i xs.length) (1,1) (fun o ho => by
  obtain ⟨j,h1,_,rfl⟩ := othersN_mem ho;exact rd_res' hx j h1) ⟨by omega,by omega⟩ ⟨by omega,by omega⟩
 refine ⟨h.1,h.2.1,h.2.2 (fun o ho => ?_) (by decide)⟩
 obtain ⟨j,h1,h2,rfl⟩ := othersN_mem ho
 rw [rd_nat,rd_nat,getD_in _ _ hi,getD_in _ _ h1]
 intro e
 rw [List.nodup_iff_pairwise_ne,List.pairwise_iff_getElem] at hn
 rcases Nat.lt_trichotomy i j with h3|h3|h3
 ·exact hn i j hi h1 h3 e
 ·exact h2 h3.symm
 ·exact hn j i h1 hi h3 e.symm
theorem alloc_size (w : World) (o : Obj) : (w.alloc o).heap.size = w.heap.size + 1 := Array.size_push _
structure LagI (wr : World) (bp ba : Nat) (p a x : Int) (s : Int × Int) (w : World) : Prop where
 hp : Box w bp p
 hn : Box w (wr.heap.size + 1) s.1
 ha : Box w ba a
 hd : Box w (wr.heap.size + 1 + 1) s.2
 hx : Box w wr.heap.size x
 r1 : Res p s.1
 r2 : Res p s.2
 below : Below wr.heap.size wr w
theorem lag_inner {p : Int} (hp : Supp p) (A : Option Addr) (c : Nat) (xs : List Int) (a : Int) (ha : Res p a) (hx : ∀ x ∈ xs,Res p x) (hl : xs.length ≤ 1099511627776) (bp ba n : Nat) (hn : n < xs.length) (wr : World) (hr : Kd.C (Kd.int .u64) wr A xs.length xs)
  (hbp : Box wr bp p) (hba : Box wr ba a) :
  Calls Try.prog 60 #[.slice A xs.length c,.int .i64 (n : Int),.func (.func 61) #[] #[.pointer (some ⟨bp,0,none⟩),.pointer (some ⟨wr.heap.size + 1,0,none⟩),.pointer (some ⟨ba,0,none⟩),.pointer (some ⟨wr.heap.size + 1 + 1,0,none⟩),.pointer (some ⟨wr.heap.size,0,none⟩)]]
   (((wr.alloc (Obj.cells #[Value.int IntKind.u64 (rd xs n)] 22)).alloc (Obj.cells #[Value.int IntKind.u64 1] 22)).alloc (Obj.cells #[Value.int IntKind.u64 1] 22))
   fun e w' => e = .returned (.tuple #[]) ∧ Aside0 (LagI wr bp ba p a (rd xs n) (lagS p a xs n) w') := by
 have hpb := hp.bd
 have lp := blk_lt hbp
 have la := blk_lt hba
 refine others_lag (LagI wr bp ba p a (rd xs n)) (lagStep p a (rd xs n)) bp (wr.heap.size + 1) ba (wr.heap.size + 1 + 1) wr.heap.size A c xs n (by omega) hl (fun s w' h => Kd.C_below hr h.below) ?_ (1,1) _ ?_
 ·intro s w' i hi hne h
  refine (lagc_calls hp h.r1 ha h.r2 (rd_res' hx n hn) (rd_res' hx i hi) bp (wr.heap.size + 1) ba (wr.heap.size + 1 + 1) wr.heap.size w' h.hp h.hn h.ha h.hd h.hx (by omega) (by omega) (by omega) (by omega) (by omega)).mono ?_
  rintro e w2 ⟨rfl,i1,i2,rfl⟩
  refine ⟨rfl,⟨?_,?_,?_,?_,?_,Res.mod hp _,Res.mod hp _,?_⟩⟩
  ·exact ((((h.hp.drewN i1).far (by omega) _).drewN i2).far (by omega) _)
  ·exact ((((h.hn.drewN i1).put _).drewN i2).far (by omega) _)
  ·exact ((((h.ha.drewN i1).far (by omega) _).drewN i2).far (by omega) _)
  ·exact ((((h.hd.drewN i1).far (by omega) _).drewN i2).put _)
  ·exact ((((h.hx.drewN i1).far (by omega) _).drewN i2).far (by omega) _)
  ·exact Below.setCell (pw_below_drewN (Below.setCell (pw_below_drewN h.below i1) (p := ⟨wr.heap.size + 1,0,none⟩) (Nat.le_add_right _ _) _) i2) (p := ⟨wr.heap.size + 1 + 1,0,none⟩) (Nat.le_add_right _ 2) _
 ·refine ⟨?_,?_,?_,?_,?_,⟨by omega,by omega⟩,⟨by omega,by omega⟩,below_alloc (below_alloc (below_alloc (Below.refl _ _) _) _) _⟩
  ·exact blk_alloc (blk_alloc (blk_alloc hbp _) _) _
  ·have h := blk_new (wr.alloc (Obj.cells #[Value.int IntKind.u64 (rd xs n)] 22)) (Obj.cells #[Value.int IntKind.u64 1] 22)
   rw [alloc_size] at h
   exact blk_alloc h _
  ·exact blk_alloc (blk_alloc (blk_alloc hba _) _) _
  ·have h := blk_new ((wr.alloc (Obj.cells #[Value.int IntKind.u64 (rd xs n)] 22)).alloc (Obj.cells #[Value.int IntKind.u64 1] 22)) (Obj.cells #[Value.int IntKind.u64 1] 22)
   rw [alloc_size,alloc_size] at h
   exact h
  ·exact blk_alloc (blk_alloc (blk_new wr _) _) _
set_option maxHeartbeats 2000000 in
set_option maxRecDepth 100000 in
theorem lag_walk {p : Int} (hp : Supp p) (A : Option Addr) (c : Nat) (xs : List Int) (a : Int) (ha : Res p a) (hx : ∀ x ∈ xs,Res p x) (hl : xs.length ≤ 49) (w : World) (hr : Kd.C (Kd.int .u64) w A xs.length xs) (hc : xs.length ≤ c) :
  Calls Try.prog 33 #[.int .u64 p,.slice A xs.length c,.int .u64 a] w fun e w' => ∃ v0_ : Value,e = .returned (.tuple #[v0_,.int .i64 (if xs.Nodup then 0 else 1)]) ∧ Kd.R (Kd.int .u64) 22 w' w.heap.size (fun _ => True) v0_ (if xs.Nodup then lagL p a xs xs.length else []) ∧ Below w.heap.size w w' := by
 have HR := Aside0.mk hr
 clear hr
 have hb1 : Below w.heap.size w (w.alloc (Obj.cells #[Value.int IntKind.u64 p] 22)) := below_alloc (Below.refl _ _) _
 have hb2 : Below w.heap.size w ((w.alloc (Obj.cells #[Value.int IntKind.u64 p] 22)).alloc (Obj.cells #[Value.int IntKind.u64 a] 22)) := below_alloc hb1 _
 have hbp0 : Box ((w.alloc (Obj.cells #[Value.int IntKind.u64 p] 22)).alloc (Obj.cells #[Value.int IntKind.u64 a] 22)) w.heap.size p := blk_alloc (blk_new w _) _
 have hba0 : Box ((w.alloc (Obj.cells #[Value.int IntKind.u64 p] 22)).alloc (Obj.cells #[Value.int IntKind.u64 a] 22)) (w.heap.size + 1) a := by
  have h := blk_new (w.alloc (Obj.cells #[Value.int IntKind.u64 p] 22)) (Obj.cells #[Value.int IntKind.u64 a] 22)
  rwa [show (w.alloc (Obj.cells #[Value.int IntKind.u64 p] 22)).heap.size = w.heap.size + 1 from alloc_size _ _] at h
 have HU := Aside0.mk (unlike_big A c xs _ (Kd.C_below HR.out hb2) hc hl)
 have HB2 := Aside0.mk hb2
 have HBP := Aside0.mk hbp0
 have HBA := Aside0.mk hba0
 clear hb1 hb2 hbp0 hba0
 have HX := Aside0.mk hx
 clear hx
 by_cases hnd : xs.Nodup
 ·have hd : decide xs.Nodup = true := decide_eq_true hnd
  rw [if_pos hnd,if_pos hnd]
  have HND := Aside0.mk hnd
  clear hnd
  go_enter Try.func33,Try.ntmps33
  go_wp2_with (first|(go_at_call 59;(with_reducible refine HU.out.mono ?_);rintro e w1 ⟨rfl,hb3⟩;have HB3 := Aside0.mk (below_step HB2.out hb3);have HBP3 := Aside0.mk (show Box w1 w.heap.size p from blk_below HBP.out hb3);have HBA3 := Aside0.mk (show Box w1 (w.heap.size + 1) a from blk_below HBA.out hb3);clear hb3))
  clear hd
  go_loopg [8,18] xs.length (fun kq v8 v18 w' => ∃ (n : Nat),v18 = .int .i64 (n : Int) ∧ Aside0 (kq + n = xs.length) ∧ Aside0 (Kd.R (Kd.int .u64) 22 w' w.heap.size (fun k_ => w.heap.size + 2 ≤ k_) v8 (lagL p a xs n)) ∧ Aside0 (Box w' w.heap.size p ∧ Box w' (w.heap.size + 1) a) ∧ Aside0 (Below w.heap.size w w'))
  case atStart => exact ⟨0,rfl,⟨rfl⟩,⟨Kd.R_nil _ _ _ _ _⟩,⟨HBP3.out,HBA3.out⟩,HB3⟩
  case round =>
   clear HBP3 HBA3 HB3
   obtain ⟨n,rfl,HK,HO,HBx,HB⟩ := hrel
   by_cases hlt : n < xs.length
   ·have p1 : ((0 : Int) ≤ (n : Int)) = True := eq_true (by omega)
    have q1 : ((n : Int) < (xs.length : Int)) = True := eq_true (by omega)
    obtain ⟨ad,e1,hx⟩ := Kd.at_int HR.out (n : Int) (by omega) (by omega)
    cases e1
    replace hx := pw_cell_below HB.out hx
    rw [Int.toNat_natCast] at hx
    have hin := Aside0.mk (lag_inner hp (some ad) c xs a ha HX.out (by omega) w.heap.size (w.heap.size + 1) n hlt wr (Kd.C_below HR.out HB.out) HBx.out.1 HBx.out.2)
    obtain ⟨q1',q2',q3'⟩ := lagS_ok hp (a := a) HX.out HND.out n hlt
    obtain ⟨ko,hko⟩ := (over_ev hp q1' q2' q3').rounds
    have HKO := Aside0.mk hko
    obtain ⟨sn,hsn⟩ : ∃ y,y = (lagS p a xs n).1 := ⟨_,rfl⟩
    obtain ⟨sd,hsd⟩ : ∃ y,y = (lagS p a xs n).2 := ⟨_,rfl⟩
    rw [← hsn,← hsd] at HKO
    have HSN := Aside0.mk hsn
    have HSD := Aside0.mk hsd
    clear hko hsn hsd q1' q2' q3'
    have hlen : (lagL p a xs n).length = n := lagL_length p a xs n
    obtain ⟨y,hy⟩ : ∃ y,y = lagL p a xs n ++ [sn * invp p sd % p] := ⟨_,rfl⟩
    have HY := Aside0.mk hy
    have HLen := Aside0.mk hlen
    clear hy hlen
    go_wp2_with (first
     | (go_at_call 60;(with_reducible refine hin.out.mono ?_);rintro e w4 ⟨rfl,hI⟩;have b1 := (hI.out.hp).cell;have hsz := Aside0.mk (show w.heap.size + 2 ≤ w4.heap.size from blk_lt hI.out.ha);have HBp4 := Aside0.mk hI.out.hp;have HBa4 := Aside0.mk hI.out.ha;have b2 := (hI.out.hn).cell;rw [← HSN.out] at b2;have b3 := (hI.out.hd).cell;rw [← HSD.out] at b3;have HB4 := Aside0.mk (below_step HB.out hI.out.below);have HO4 := Aside0.mk (Kd.R_below HO.out hI.out.below))
     | (go_at_call 62;(with_reducible refine (interpolate_over.calls ko p sn sd (sn * invp p sd % p) _ HKO.out).mono ?_);rintro e w5 ⟨rfl,⟨nd,rfl⟩⟩)
     | ((with_reducible refine gate_builtin (b := .append) (xs := #[.tmp 27,.tmp 32]) rfl ?_);at_builtin;refine Kd.R_append (Kd.int .u64) (w0 := w) w.heap.size rfl (.tmp 27) (.tmp 32) 40 22 (.int .u64 0) 8 rfl Try.underlying40 info22 rfl (by decide) (by omega) u8 (lagL p a xs n) (sn * invp p sd % p) [.int .u64 (sn * invp p sd % p)] (fun k_ => w.heap.size + 2 ≤ k_) (fun _ => False) rfl rfl rfl (fun _ hk => hk.elim) (fun k hk => Nat.le_trans hsz.out hk) (Kd.R_drewN HO4.out nd) (pw_below_drewN HB4.out nd) (below_size (pw_below_drewN HB4.out nd)) (by rw [HLen.out];omega) ?_;intro v6 w6 ho6 hb6 hg6 ha6;rw [← HY.out] at ho6;have HO6 := Aside0.mk ho6;have HB6 := Aside0.mk hb6;have HG6 := Aside0.mk hg6;clear ho6 hb6 hg6 ha6))
    go_roundg (xs.length - (n + 1))
    case measure => have := HK.out;omega
    case rel =>
     have hne : ∀ b,b < w.heap.size + 2 → some b ≠ u8.ownBlock := fun b hb e => by have := HO.out.1 b e.symm;omega
     refine ⟨n + 1,by go_num,⟨by omega⟩,⟨?_⟩,⟨?_,?_⟩,HB6⟩
     ·rw [lagL,lagW,← HSN.out,← HSD.out,← HY.out];exact HO6.out
     ·exact blk_grown (blk_drewN HBp4.out nd) HG6.out (hne _ (by omega))
     ·exact blk_grown (blk_drewN HBa4.out nd) HG6.out (hne _ (by omega))
   ·have hd : decide ((n : Int) < (xs.length : Int)) = false := decide_eq_false (by omega)
    have hn : n = xs.length := by have := HK.out;omega
    subst hn
    clear hlt HK
    go_wp2
    first|go_ret2|((try simp only [Exit.inBlock,Exit.then]);refine bodyPost_ret (results_tmp rfl _ _ rfl) rfl ?_)
    exact ⟨_,rfl,Kd.R_mono HO.out (fun _ _ => trivial),HB.out⟩
 ·have hd : decide xs.Nodup = false := decide_eq_false hnd
  rw [if_neg hnd,if_neg hnd]
  go_enter Try.func33,Try.ntmps33
  go_wp2_with (first|(go_at_call 59;(with_reducible refine HU.out.mono ?_);rintro e w1 ⟨rfl,hb3⟩;have HB3 := Aside0.mk (below_step HB2.out hb3);clear hb3))
  first|go_ret2|((try simp only [Exit.inBlock,Exit.then]);refine bodyPost_ret (results_tmp rfl _ _ rfl) rfl ?_)
  exact ⟨_,rfl,Kd.R_nil _ _ _ _ _,HB3.out⟩
end Go.Proofs.Ytmdoaijkaaaglaa.Hw
end
section
namespace Go.Proofs.Ytmdoaijkaaaglaa.Pr
open Go.RowKit Go.Proofs.YtmdoaijkaaaglaaW.PrintWords Go.Proofs.YtmdoaijkaaaglaaW.PrintLast Go.Proofs.YtmdoaijkaaaglaaW.PrintMore
attribute [local go_sem] max2_int min2_int max_two min_two max_three min_three max_four min_four
open Go.Proofs.Ytmdoaijkaaaglaa.Hw
mutual
def privityref05_Unlike.l0 : Nat → List Int → Int → Option (Bool)
 | 0,_,_ => none
 | k + 1,x0,x3 => if x3 < (x0.length : Int) then (privityref05_Unlike.l1 k x0 x3 0) else (some true)
def privityref05_Unlike.l1 : Nat → List Int → Int → Int → Option (Bool)
 | 0,_,_,_ => none
 | k + 1,x0,x3,x4 => if x4 < x3 then (if 0 ≤ x3 then (if x3 < (x0.length : Int) then (if 0 ≤ x4 then (if x4 < (x0.length : Int) then (if (rd x0 x3) = (rd x0 x4) then (some false) else (privityref05_Unlike.l1 k x0 x3 (wrap64 (x4 + 1)))) else (none)) else (none)) else (none)) else (none)) else (privityref05_Unlike.l0 k x0 (wrap64 (x3 + 1)))
end
def privityref05_Unlike.f (k : Nat) (l0 : List Int) : Option (Bool) := privityref05_Unlike.l0 k l0 0
end Go.Proofs.Ytmdoaijkaaaglaa.Pr
end
section
namespace Go.Proofs.Ytmdoaijkaaaglaa.E
open Go.RowKit Go.Proofs.Ytmdoaijkaaaglaa.Pr Go.Proofs.Ytmdoaijkaaaglaa.Hw Go.Proofs.YtmdoaijkaaaglaaW.PrintWords Go.Proofs.YtmdoaijkaaaglaaW.PrintLast Go.Proofs.YtmdoaijkaaaglaaW.PrintMore
def trimL : List Int → List Int
 | [] => []
 | x :: l => match trimL l with
  | [] => if x = 0 then [] else [x]
  | y :: t => x :: y :: t
theorem trimL_cons (x : Int) (l : List Int) : trimL (x :: l) = if trimL l = [] then (if x = 0 then [] else [x]) else x :: trimL l := by
 rw [trimL]
 split
 ·rename_i h;rw [h,if_pos rfl]
 ·rename_i y t h;rw [h,if_neg (by simp)]
theorem trimL_length (l : List Int) : (trimL l).length ≤ l.length := by
 induction l with
 | nil => simp [trimL]
 | cons x l ih =>
  rw [trimL_cons]
  split
  ·split <;> simp
  ·simp only [List.length_cons];omega
theorem trimL_take (l : List Int) : l.take (trimL l).length = trimL l := by
 induction l with
 | nil => simp [trimL]
 | cons x l ih =>
  rw [trimL_cons]
  split
  ·split <;> simp
  ·simp only [List.length_cons,List.take_succ_cons,ih]
theorem trimL_getD (l : List Int) (i : Nat) : (trimL l).getD i 0 = l.getD i 0 := by
 induction l generalizing i with
 | nil => simp [trimL]
 | cons x l ih =>
  rw [trimL_cons]
  split
  ·rename_i h
   have hz : ∀ j,l.getD j 0 = 0 := fun j => by rw [← ih j,h];simp
   split
   ·rename_i h0
    cases i with
    | zero => simp [h0]
    | succ i => rw [List.getD_cons_succ,hz];simp
   ·cases i with
    | zero => simp
    | succ i => rw [List.getD_cons_succ,List.getD_cons_succ,hz];simp
  ·cases i with
   | zero => simp
   | succ i => rw [List.getD_cons_succ,List.getD_cons_succ];exact ih i
theorem trimL_last (l : List Int) (h : trimL l ≠ []) : (trimL l).getD ((trimL l).length - 1) 0 ≠ 0 := by
 induction l with
 | nil => exact absurd rfl h
 | cons x l ih =>
  rw [trimL_cons] at h ⊢
  by_cases hl : trimL l = []
  ·rw [if_pos hl] at h ⊢
   by_cases h0 : x = 0
   ·rw [if_pos h0] at h;exact absurd rfl h
   ·rw [if_neg h0];simpa using h0
  ·rw [if_neg hl]
   have hp : 0 < (trimL l).length := List.length_pos_iff.2 hl
   rw [List.length_cons,show (trimL l).length + 1 - 1 = (trimL l).length - 1 + 1 from by omega,List.getD_cons_succ]
   exact ih hl
theorem trimL_mem {l : List Int} {x : Int} (h : x ∈ trimL l) : x ∈ l := by
 rw [← trimL_take] at h;exact List.mem_of_mem_take h
theorem trimL_ext {l m : List Int} (h : ∀ i,l.getD i 0 = m.getD i 0) : trimL l = trimL m := by
 have hlen : ∀ {a b : List Int},(∀ i,a.getD i 0 = b.getD i 0) → (trimL a).length ≤ (trimL b).length := by
  intro a b hab
  by_cases ha : trimL a = []
  ·rw [ha];simp
  ·have h1 := trimL_last a ha
   have hp : 0 < (trimL a).length := List.length_pos_iff.2 ha
   rw [trimL_getD,hab,← trimL_getD b] at h1
   refine Nat.le_of_not_lt fun hlt => h1 ?_
   rw [List.getD_eq_getElem?_getD,List.getElem?_eq_none (by omega)];rfl
 refine List.ext_getElem? fun i => ?_
 have hl : (trimL l).length = (trimL m).length := Nat.le_antisymm (hlen h) (hlen fun i => (h i).symm)
 by_cases hi : i < (trimL l).length
 ·have e1 := trimL_getD l i
  have e2 := trimL_getD m i
  rw [List.getD_eq_getElem?_getD,List.getElem?_eq_getElem hi] at e1
  rw [List.getD_eq_getElem?_getD,List.getElem?_eq_getElem (by omega)] at e2
  rw [List.getElem?_eq_getElem hi,List.getElem?_eq_getElem (by omega)]
  simp only [Option.getD_some] at e1 e2
  rw [e1,e2,h i]
 ·rw [List.getElem?_eq_none (by omega),List.getElem?_eq_none (by omega)]
theorem trimL_trimL (l : List Int) : trimL (trimL l) = trimL l := trimL_ext (trimL_getD l)
def evI (p x : Int) : List Int → Int
 | [] => 0
 | c :: f => (evI p x f * x % p + c) % p
theorem evI_res {p : Int} (hp : Supp p) (x : Int) : ∀ l,Res p (evI p x l)
 | [] => by have := hp.bd;exact ⟨Int.le_refl 0,by show (0 : Int) < p;omega⟩
 | c :: l => Res.mod hp _
end Go.Proofs.Ytmdoaijkaaaglaa.E
end
section
namespace Go.Proofs.Ytmdoaijkaaaglaa.Hw
open Go.RowKit Go.Proofs.Ytmdoaijkaaaglaa.Pr Go.Proofs.YtmdoaijkaaaglaaW.PrintWords Go.Proofs.YtmdoaijkaaaglaaW.PrintLast Go.Proofs.YtmdoaijkaaaglaaW.PrintMore Go.Proofs.Ytmdoaijkaaaglaa.E
structure PolI (wr : World) (bp bf bd bx : Nat) (p X Y : Int) (s : List Int × Int) (w : World) : Prop where
 hp : Box w bp p
 hf : ∃ A c,w.heap[bf]? = some (.cells #[.slice A s.1.length c] 40 (0,0)) ∧ Kd.R (Kd.int .u64) 22 w wr.heap.size (fun k => k ≠ bd) (.slice A s.1.length c) s.1
 hd : Box w bd s.2
 hx : w.heap[bx]? = some (.cells #[.int .u64 X,.int .u64 Y] 56 (0,0))
 r1 : ∀ x ∈ s.1,Res p x
 r2 : Res p s.2
 below : Below wr.heap.size wr w
def polStep (p X : Int) (s : List Int × Int) (o : Int) : List Int × Int := (trimL (mulsL p s.1 [-o % p,1] s.1.length),s.2 * ((X - o) % p) % p)
theorem cell_alloc_of {w : World} {n : Nat} {a : Addr} {v : Value} (h : w.cell? a = some v) (o : Obj) : ((w.drewN n).alloc o).cell? a = some v := (World.cell?_alloc_lt _ _ _ (World.block_lt_of_cell? w _ h)).trans h
def addP (p : Int) (a b : List Int) : List Int := putsL p (putsL p [] a a.length) b b.length
def xsOf (pts : List S56) : List Int := pts.map fun x => x.f0
def polS (p : Int) (pts : List S56) (i : Nat) : List Int × Int := (othersN (xsOf pts) i pts.length).foldl (polStep p (rd_T56 pts i).f0) ([1],1)
def polTerm (p : Int) (pts : List S56) (i : Nat) : List Int := trimL ((polS p pts i).1.map fun v => ((rd_T56 pts i).f1 * invp p (polS p pts i).2 % p) * v % p)
def polSum (p : Int) (pts : List S56) : Nat → List Int
 | 0 => []
 | n + 1 => trimL (addP p (polSum p pts n) (polTerm p pts n))
def polL (p : Int) (pts : List S56) : List Int := trimL (polSum p pts pts.length)
theorem rdT_nat (pts : List S56) (i : Nat) (h : i < pts.length) : rd_T56 pts (i : Int) = pts[i] := by
 unfold rd_T56;rw [Int.toNat_natCast,List.getD_eq_getElem?_getD,List.getElem?_eq_getElem h];rfl
theorem xsOf_rd (pts : List S56) (i : Nat) (h : i < pts.length) : rd (xsOf pts) (i : Int) = (rd_T56 pts (i : Int)).f0 := by
 rw [rdT_nat _ _ h,rd_nat,getD_in _ _ (by simpa [xsOf] using h)];simp [xsOf]
def PtsOk (p : Int) (pts : List S56) : Prop := ∀ x ∈ pts,Res p x.f0 ∧ Res p x.f1
theorem PtsOk.xs {p : Int} {pts : List S56} (h : PtsOk p pts) : ∀ x ∈ xsOf pts,Res p x := by
 intro x hx
 obtain ⟨y,hy,rfl⟩ := List.mem_map.1 hx
 exact (h y hy).1
theorem PtsOk.at_ {p : Int} {pts : List S56} (h : PtsOk p pts) (i : Nat) (hi : i < pts.length) : Res p (rd_T56 pts (i : Int)).f0 ∧ Res p (rd_T56 pts (i : Int)).f1 := by
 rw [rdT_nat _ _ hi];exact h _ (List.getElem_mem _)
theorem linear_length (p : Int) (f : List Int) (o : Int) : (mulsL p f [o,1] f.length).length ≤ f.length + 2 := mulsL_length p f [o,1] f.length
theorem polFold {p : Int} (hp : Supp p) {X : Int} (hX : Res p X) : ∀ (l : List Int) (s : List Int × Int),(∀ o ∈ l,Res p o) → (∀ x ∈ s.1,Res p x) → Res p s.2 →
  (∀ x ∈ (l.foldl (polStep p X) s).1,Res p x) ∧ Res p (l.foldl (polStep p X) s).2 ∧ (l.foldl (polStep p X) s).1.length ≤ s.1.length + 2 * l.length ∧ ((∀ o ∈ l,X ≠ o) → s.2 ≠ 0 → (l.foldl (polStep p X) s).2 ≠ 0)
 | [],s,_,h1,h2 => ⟨h1,h2,by simp,fun _ h => h⟩
 | o :: l,s,hl,h1,h2 => by
  have ih := polFold hp hX l (polStep p X s o) (fun y hy => hl y (List.mem_cons_of_mem _ hy)) (fun x hx => mulsL_res hp _ _ _ x (trimL_mem hx)) (Res.mod hp _)
  have hlen : (polStep p X s o).1.length ≤ s.1.length + 2 := Nat.le_trans (trimL_length _) (linear_length p s.1 _)
  refine ⟨ih.1,ih.2.1,?_,fun hne h0 => ih.2.2.2 (fun y hy => hne y (List.mem_cons_of_mem _ hy)) ?_⟩
  ·have := ih.2.2.1;simp only [List.foldl_cons,List.length_cons] at *;omega
  ·exact mul_ne' hp h2 h0 (Res.mod hp _) (sub_ne' hp hX (hl o (by simp)) (hne o (by simp)))
theorem othersN_length (xs : List Int) (b : Nat) : ∀ n,(othersN xs b n).length ≤ n
 | 0 => Nat.le_refl _
 | n + 1 => by
  have := othersN_length xs b n
  unfold othersN
  split
  ·omega
  ·rw [List.length_append];simp only [List.length_cons,List.length_nil];omega
theorem one_res {p : Int} (hp : Supp p) : ∀ x ∈ [(1 : Int)],Res p x := by
 have := hp.bd
 intro x hx
 simp only [List.mem_cons,List.not_mem_nil,or_false] at hx
 subst hx
 exact ⟨by omega,by omega⟩
theorem addP_length (p : Int) (a b : List Int) : (addP p a b).length = max a.length b.length := by
 unfold addP;rw [putsL_length,putsL_length];simp
theorem addP_res {p : Int} (hp : Supp p) (a b : List Int) : ∀ x ∈ addP p a b,Res p x :=
 putsL_res hp (putsL_res hp (by intro x hx;cases hx) _) _
theorem polTerm_length {p : Int} (hp : Supp p) {pts : List S56} (hx : PtsOk p pts) {n : Nat} (hn : n < pts.length) : (polTerm p pts n).length ≤ 1 + 2 * pts.length := by
 have hpb := hp.bd
 have hxl : (xsOf pts).length = pts.length := by simp [xsOf]
 have h := polFold hp (hx.at_ n hn).1 (othersN (xsOf pts) n pts.length) ([1],1) (fun o ho => by obtain ⟨j,h1,_,rfl⟩ := othersN_mem ho;exact rd_res' hx.xs j (by omega)) (one_res hp) ⟨by omega,by omega⟩
 have hl := othersN_length (xsOf pts) n pts.length
 have h3 := h.2.2.1
 simp only [List.length_cons,List.length_nil] at h3
 refine Nat.le_trans (trimL_length _) ?_
 rw [List.length_map]
 unfold polS
 omega
theorem polS_ok {p : Int} (hp : Supp p) {pts : List S56} (hx : PtsOk p pts) {n : Nat} (hn : n < pts.length) (hnd : (xsOf pts).Nodup) :
  (∀ x ∈ (polS p pts n).1,Res p x) ∧ Res p (polS p pts n).2 ∧ (polS p pts n).1.length ≤ 1 + 2 * pts.length ∧ (polS p pts n).2 ≠ 0 := by
 have hpb := hp.bd
 have hxl : (xsOf pts).length = pts.length := by simp [xsOf]
 have h := polFold hp (hx.at_ n hn).1 (othersN (xsOf pts) n pts.length) ([1],1) (fun o ho => by obtain ⟨j,h1,_,rfl⟩ := othersN_mem ho;exact rd_res' hx.xs j (by omega)) (one_res hp) ⟨by omega,by omega⟩
 have hl := othersN_length (xsOf pts) n pts.length
 refine ⟨h.1,h.2.1,?_,h.2.2.2 (fun o ho => ?_) (by decide)⟩
 ·have := h.2.2.1;simp only [List.length_cons,List.length_nil] at this;unfold polS;omega
 ·obtain ⟨j,h1,h2,rfl⟩ := othersN_mem ho
  rw [← xsOf_rd pts n hn,rd_nat,rd_nat,getD_in _ _ (by omega),getD_in _ _ (by omega)]
  intro e
  rw [List.nodup_iff_pairwise_ne,List.pairwise_iff_getElem] at hnd
  rcases Nat.lt_trichotomy n j with h3|h3|h3
  ·exact hnd n j (by omega) (by omega) h3 e
  ·exact h2 h3.symm
  ·exact hnd j n (by omega) (by omega) h3 e.symm
theorem polSum_ok {p : Int} (hp : Supp p) {pts : List S56} (hx : PtsOk p pts) : ∀ (n : Nat),n ≤ pts.length → (∀ x ∈ polSum p pts n,Res p x) ∧ (polSum p pts n).length ≤ 1 + 2 * pts.length
 | 0,_ => ⟨fun x hx => (by cases hx),by simp [polSum]⟩
 | n + 1,h => by
  have ih := polSum_ok hp hx n (by omega)
  refine ⟨fun x hx => addP_res hp _ _ x (trimL_mem hx),?_⟩
  refine Nat.le_trans (trimL_length _) ?_
  rw [addP_length]
  have := polTerm_length hp hx (n := n) (by omega)
  omega
def supB (p : Int) : Bool := decide (p = 31) || decide (p = 127) || decide (p = 8191) || decide (p = 131071) || decide (p = 524287) || decide (p = 2147483647) || decide (p = 2305843009213693951)
theorem supB_of {p : Int} (h : supB p = true) : Supp p := by
 simp only [supB,Bool.or_eq_true,decide_eq_true_eq] at h
 rcases h with (((((h|h)|h)|h)|h)|h)|h
 ·exact ⟨5,Or.inl ⟨h,rfl⟩⟩
 ·exact ⟨7,Or.inr (Or.inl ⟨h,rfl⟩)⟩
 ·exact ⟨13,Or.inr (Or.inr (Or.inl ⟨h,rfl⟩))⟩
 ·exact ⟨17,Or.inr (Or.inr (Or.inr (Or.inl ⟨h,rfl⟩)))⟩
 ·exact ⟨19,Or.inr (Or.inr (Or.inr (Or.inr (Or.inl ⟨h,rfl⟩))))⟩
 ·exact ⟨31,Or.inr (Or.inr (Or.inr (Or.inr (Or.inr (Or.inl ⟨h,rfl⟩)))))⟩
 ·exact ⟨61,Or.inr (Or.inr (Or.inr (Or.inr (Or.inr (Or.inr ⟨h,rfl⟩)))))⟩
theorem supB_iff {p : Int} : supB p = true ↔ Supp p := by
 refine ⟨supB_of,fun ⟨q,h⟩ => ?_⟩
 rcases h with ⟨rfl,_⟩|⟨rfl,_⟩|⟨rfl,_⟩|⟨rfl,_⟩|⟨rfl,_⟩|⟨rfl,_⟩|⟨rfl,_⟩ <;> rfl
def resB (p x : Int) : Bool := decide (0 ≤ x) && decide (x < p)
theorem resB_iff {p x : Int} : resB p x = true ↔ Res p x := by simp [resB,Res]
def ressB (p : Int) (l : List Int) : Bool := l.all (resB p)
theorem ressB_iff {p : Int} {l : List Int} : ressB p l = true ↔ ∀ x ∈ l,Res p x := by simp [ressB,resB_iff]
theorem ifs {c : Prop} [Decidable c] {α : Type} {x : Option α} {r : α} (h : (if c then x else none) = some r) : c ∧ x = some r := by
 by_cases hc : c
 ·rw [if_pos hc] at h;exact ⟨hc,h⟩
 ·rw [if_neg hc] at h;cases h
def interpolate_LagrangeWeights.f (a0 : Int) (l1 : List Int) (a2 : Int) : Option (List Int × Int) :=
 if supB a0 = true then (if ressB a0 l1 = true then (if resB a0 a2 = true then (if l1.length ≤ 49 then some (if l1.Nodup then lagL a0 a2 l1 l1.length else [],if l1.Nodup then 0 else 1) else none) else none) else none) else none
theorem interpolate_LagrangeWeights.calls (a0 : Int) (A1 : Option Addr) (c1 : Nat) (l1 : List Int) (a2 : Int) (r1 : List Int) (r2 : Int) (w : World) (hr1 : Kd.C (Kd.int .u64) w A1 l1.length l1) (hc1 : l1.length ≤ c1) (h : interpolate_LagrangeWeights.f a0 l1 a2 = some (r1,r2)) :
  Calls Try.prog 33 #[.int .u64 a0,.slice A1 l1.length c1,.int .u64 a2] w fun e w' => ∃ v0_ : Value,e = .returned (.tuple #[v0_,.int .i64 r2]) ∧ Kd.R (Kd.int .u64) 22 w' w.heap.size (fun _ => True) v0_ r1 ∧ Below w.heap.size w w' := by
 unfold interpolate_LagrangeWeights.f at h
 obtain ⟨h1,h⟩ := ifs h
 obtain ⟨h2,h⟩ := ifs h
 obtain ⟨h3,h⟩ := ifs h
 obtain ⟨h4,h⟩ := ifs h
 have h := Option.some.inj h
 have e1 := congrArg Prod.fst h
 have e2 := congrArg Prod.snd h
 simp only at e1 e2
 rw [← e1,← e2]
 exact lag_walk (supB_of h1) A1 c1 l1 a2 (resB_iff.1 h3) (ressB_iff.1 h2) h4 w hr1 hc1
end Go.Proofs.Ytmdoaijkaaaglaa.Hw
end
section
namespace Go.Proofs.Ytmdoaijkaaaglaa.Pr
open Go.RowKit Go.Proofs.YtmdoaijkaaaglaaW.PrintWords Go.Proofs.YtmdoaijkaaaglaaW.PrintLast Go.Proofs.YtmdoaijkaaaglaaW.PrintMore
attribute [local go_sem] max2_int min2_int max_two min_two max_three min_three max_four min_four
open Go.Proofs.Ytmdoaijkaaaglaa.Hw
mutual
def hyperinvertible_New.j0 : Nat → Int → Int → Int → Bool → Option ((List (List Int)) × Int)
 | 0,_,_,_,_ => none
 | k + 1,x0,x1,x2,x35 => if x35 = true then (some (([] : List (List Int)),2)) else ((hyperinvertible_points.f k 1 x2).bind fun t372 => ((hyperinvertible_points.f k (wrap64 (x2 + 1)) x1).bind fun t375 => (hyperinvertible_New.l0 k x0 t372 ([] : List (List Int)) t375 (t375.length : Int) 0)))
def hyperinvertible_New.l0 : Nat → Int → List Int → List (List Int) → List Int → Int → Int → Option ((List (List Int)) × Int)
 | 0,_,_,_,_,_,_ => none
 | k + 1,x0,x8,x9,x41,x42,x43 => if x43 < x42 then (if 0 ≤ x43 then (if x43 < (x41.length : Int) then ((interpolate_LagrangeWeights.f x0 x8 (rd x41 x43)).bind fun bt379 => (if bt379.2 = 0 then (if x9.length < 5864062014805 then (hyperinvertible_New.l0 k x0 x8 (x9 ++ [bt379.1]) x41 x42 (wrap64 (x43 + 1))) else (none)) else (some (([] : List (List Int)),bt379.2)))) else (none)) else (none)) else (some (x9,0))
end
def hyperinvertible_New.f (k : Nat) (a0 : Int) (a1 : Int) (a2 : Int) : Option ((List (List Int)) × Int) := if a1 < 1 then (hyperinvertible_New.j0 k a0 a1 a2 true) else (if a1 > 26 then (hyperinvertible_New.j0 k a0 a1 a2 true) else (if a2 < 1 then (hyperinvertible_New.j0 k a0 a1 a2 true) else (if a2 > 26 then (hyperinvertible_New.j0 k a0 a1 a2 true) else (hyperinvertible_New.j0 k a0 a1 a2 (decide ((IntKind.u64.wrap (wrap64 (a1 + a2))) ≥ a0))))))
theorem hyperinvertible_New.mono_l : ∀ k,(∀ y0 y1 y2 y3,LeO (hyperinvertible_New.j0 k y0 y1 y2 y3) (hyperinvertible_New.j0 (k + 1) y0 y1 y2 y3)) ∧ (∀ y0 y1 y2 y3 y4 y5,LeO (hyperinvertible_New.l0 k y0 y1 y2 y3 y4 y5) (hyperinvertible_New.l0 (k + 1) y0 y1 y2 y3 y4 y5))
 | 0 => ⟨fun _ _ _ _ r h => by simp [hyperinvertible_New.j0] at h,fun _ _ _ _ _ _ r h => by simp [hyperinvertible_New.l0] at h⟩
 | k + 1 => by
  obtain ⟨ih0,ih1⟩ := hyperinvertible_New.mono_l k
  refine ⟨?_,?_⟩
  ·intro y0 y1 y2 y3
   unfold hyperinvertible_New.j0
   repeat' first
   | (with_reducible exact ih0 _ _ _ _)
   | (with_reducible exact ih1 _ _ _ _ _ _)
   | (with_reducible exact hyperinvertible_points.mono _ _ _)
   | (with_reducible exact LeO.refl _)
   | (with_reducible exact LeO.none _)
   | (with_reducible refine LeO.ite ?_ ?_)
   | (with_reducible refine LeO.bind ?_ (fun _ => ?_))
   | exact ih0 _ _ _ _
   | exact ih1 _ _ _ _ _ _
   | exact hyperinvertible_points.mono _ _ _
   | exact LeO.none _
   | refine LeO.ite ?_ ?_
   | refine LeO.bind ?_ (fun _ => ?_)
  ·intro y0 y1 y2 y3 y4 y5
   unfold hyperinvertible_New.l0
   repeat' first
   | (with_reducible exact ih0 _ _ _ _)
   | (with_reducible exact ih1 _ _ _ _ _ _)
   | (with_reducible exact hyperinvertible_points.mono _ _ _)
   | (with_reducible exact LeO.refl _)
   | (with_reducible exact LeO.none _)
   | (with_reducible refine LeO.ite ?_ ?_)
   | (with_reducible refine LeO.bind ?_ (fun _ => ?_))
   | exact ih0 _ _ _ _
   | exact ih1 _ _ _ _ _ _
   | exact hyperinvertible_points.mono _ _ _
   | exact LeO.none _
   | refine LeO.ite ?_ ?_
   | refine LeO.bind ?_ (fun _ => ?_)
theorem hyperinvertible_New.mono : ∀ a0 a1 a2 k,LeO (hyperinvertible_New.f k a0 a1 a2) (hyperinvertible_New.f (k + 1) a0 a1 a2) := by
 intro a0 a1 a2 k
 obtain ⟨ih0,ih1⟩ := hyperinvertible_New.mono_l k
 unfold hyperinvertible_New.f
 repeat' first
   | (with_reducible exact ih0 _ _ _ _)
   | (with_reducible exact ih1 _ _ _ _ _ _)
   | (with_reducible exact hyperinvertible_points.mono _ _ _)
   | (with_reducible exact LeO.refl _)
   | (with_reducible exact LeO.none _)
   | (with_reducible refine LeO.ite ?_ ?_)
   | (with_reducible refine LeO.bind ?_ (fun _ => ?_))
   | exact ih0 _ _ _ _
   | exact ih1 _ _ _ _ _ _
   | exact hyperinvertible_points.mono _ _ _
   | exact LeO.none _
   | refine LeO.ite ?_ ?_
   | refine LeO.bind ?_ (fun _ => ?_)
set_option maxHeartbeats 8000000 in
set_option maxRecDepth 100000 in
theorem hyperinvertible_New.calls (k : Nat) (a0 : Int) (a1 : Int) (a2 : Int) (r1 : List (List Int)) (r2 : Int) (w : World) (h : hyperinvertible_New.f k a0 a1 a2 = some (r1,r2)) :
  Calls Try.prog 14 #[.int .u64 a0,.int .i64 a1,.int .i64 a2] w fun e w' => ∃ v0_ : Value,e = .returned (.tuple #[v0_,.int .i64 r2]) ∧ Kd.S (Kd.slice 22 (Kd.int .u64)) 40 w' w.heap.size (fun _ => True) v0_ r1 ∧ Below w.heap.size w w' := by
 have HB := am (Below.refl w.heap.size w)
 have H : (if a1 < 1 then (hyperinvertible_New.j0 k a0 a1 a2 true) else (if a1 > 26 then (hyperinvertible_New.j0 k a0 a1 a2 true) else (if a2 < 1 then (hyperinvertible_New.j0 k a0 a1 a2 true) else (if a2 > 26 then (hyperinvertible_New.j0 k a0 a1 a2 true) else (hyperinvertible_New.j0 k a0 a1 a2 (decide ((IntKind.u64.wrap (wrap64 (a1 + a2))) ≥ a0))))))) = some (r1,r2) := h
 clear h
 have HC4 := am H
 clear H
 go_enter Try.func14,Try.ntmps14
 go_upto_region 1 with (fail)
 go_cut [35] (fun v35 wc => ∃ (kq : Nat) (x35_3 : Bool),v35 = .bool x35_3 ∧ Aside0 (hyperinvertible_New.j0 kq a0 a1 a2 x35_3 = some (r1,r2)) ∧ Aside0 (kq ≤ k) ∧ Aside0 (Below w.heap.size w wc))
 case first =>
  have H := HC4.out
  clear HC4
  by_cases c5 : a1 < 1
  ·rw [if_pos c5] at H
   have c5b0 : decide (a1 < 1) = true := decide_eq_true c5
   clear c5
   (first|rw [c5b0]|(simp only [i64_w,i32_w];rw [c5b0])|skip)
   have H' := am H
   clear H
   go_wp2
   go_meet
   case rel => exact ⟨_,(true),(by first|rfl|(simp;done)|(simp [*];done)),H',⟨by first|omega|exact Nat.le_refl _⟩,⟨bb HB⟩⟩
  ·rw [if_neg c5] at H
   have c5b0 : decide (a1 < 1) = false := decide_eq_false c5
   clear c5
   (first|rw [c5b0]|(simp only [i64_w,i32_w];rw [c5b0])|skip)
   by_cases c6 : a1 > 26
   ·rw [if_pos c6] at H
    have c6b0 : decide (26 < a1) = true := decide_eq_true c6
    clear c6
    have H' := am H
    clear H
    go_wp2
    go_meet
    case rel => exact ⟨_,(true),(by first|rfl|(simp;done)|(simp [*];done)),H',⟨by first|omega|exact Nat.le_refl _⟩,⟨bb HB⟩⟩
   ·rw [if_neg c6] at H
    have c6b0 : decide (26 < a1) = false := decide_eq_false c6
    clear c6
    by_cases c7 : a2 < 1
    ·rw [if_pos c7] at H
     have c7b0 : decide (a2 < 1) = true := decide_eq_true c7
     clear c7
     have H' := am H
     clear H
     go_wp2
     go_meet
     case rel => exact ⟨_,(true),(by first|rfl|(simp;done)|(simp [*];done)),H',⟨by first|omega|exact Nat.le_refl _⟩,⟨bb HB⟩⟩
    ·rw [if_neg c7] at H
     have c7b0 : decide (a2 < 1) = false := decide_eq_false c7
     clear c7
     by_cases c8 : a2 > 26
     ·rw [if_pos c8] at H
      have c8b0 : decide (26 < a2) = true := decide_eq_true c8
      clear c8
      have H' := am H
      clear H
      go_wp2
      go_meet
      case rel => exact ⟨_,(true),(by first|rfl|(simp;done)|(simp [*];done)),H',⟨by first|omega|exact Nat.le_refl _⟩,⟨bb HB⟩⟩
     ·rw [if_neg c8] at H
      have c8b0 : decide (26 < a2) = false := decide_eq_false c8
      clear c8
      have H' := am H
      clear H
      go_wp2
      go_meet
      case rel => exact ⟨_,(decide ((IntKind.u64.wrap (wrap64 (a1 + a2))) ≥ a0)),(by first|rfl|(simp;done)|(simp [*];done)),H',⟨by first|omega|exact Nat.le_refl _⟩,⟨bb HB⟩⟩
 case rest =>
  clear HC4
  try clear c1
  try clear p2
  try clear c5
  try clear c5b0
  try clear c6
  try clear c6b0
  try clear p6
  try clear c7
  try clear c7b0
  try clear c8
  try clear c8b0
  obtain ⟨kq,x35_3,rfl,HA,HJ3,HB⟩ := hcut
  cases kq with
  | zero => exact absurd HA.out (by simp [hyperinvertible_New.j0])
  | succ kj3 =>
   have H := HA.out
   clear HA
   simp only [hyperinvertible_New.j0] at H
   by_cases c9 : x35_3 = true
   ·subst c9
    rw [if_pos rfl] at H
    simp only [Option.some.injEq,Prod.mk.injEq] at H
    obtain ⟨rfl,rfl⟩ := H
    go_wp2
    go_ret2
    exact ⟨_,by first|rfl|(simp [errW_none,errW_some] <;> rfl)|(simp [*,errW_none,errW_some] <;> rfl),by first|exact Kd.S_nil _ _ _ _ _|exact Kd.N_nil _ _ _ _ _|exact Kd.V_nil _ _ _ _ _|exact Kd.Q_nil _ _ _ _ _|exact Kd.R_nil _ _ _ _ _,bb HB⟩
   ·replace c9 := Bool.eq_false_iff.mpr c9
    subst c9
    rw [if_neg (show ¬ (false = true) by decide)] at H
    replace H := Option.bind_eq_some_iff.mp H
    obtain ⟨t372,A100,H⟩ := H
    try dsimp only at H
    have A10 := am A100
    clear A100
    replace H := Option.bind_eq_some_iff.mp H
    obtain ⟨t375,A110,H⟩ := H
    try dsimp only at H
    have A11 := am A110
    clear A110
    have H' := am H
    clear H
    go_wp2_with (first|((with_reducible refine gate_callee (f := 39) rfl ?_);refine goesL_ (some 37) rfl rfl Try.func39 (by kernel_rfl) rfl #[.int .i64 1,.int .i64 a2] rfl (by (try simp only [List.map_toArray,List.map_cons,List.map_nil]);first|done|rfl|(simp only [List.length_drop,List.length_take];rfl)) ?_;(with_reducible refine (hyperinvertible_points.calls kj3 1 a2 t372 _ A10.out).mono ?_);rintro e w12 ⟨v373,rfl,ho0,hb⟩;refine ⟨_,rfl,?_⟩;have n0_ := am (Kd.R_lower ho0 (below_size (bb HB)));have n1_ := am (below_step (bb HB) hb);clear HB;have HO374 := n0_;have HB := n1_;clear n0_ n1_;(try clear hb);(try clear hb2);(try clear hk);(try clear hi);(try clear ho0))|((with_reducible refine gate_callee (f := 39) rfl ?_);refine goesL_ (some 41) rfl rfl Try.func39 (by kernel_rfl) rfl #[.int .i64 (wrap64 (a2 + 1)),.int .i64 a1] rfl (by (try simp only [List.map_toArray,List.map_cons,List.map_nil]);first|done|rfl|(simp only [List.length_drop,List.length_take];rfl)) ?_;(with_reducible refine (hyperinvertible_points.calls kj3 (wrap64 (a2 + 1)) a1 t375 _ A11.out).mono ?_);rintro e w13 ⟨v376,rfl,ho0,hb⟩;refine ⟨_,rfl,?_⟩;have n0_ := am (Kd.R_elder' (rr HO374) (Kd.R_base ho0) hb);have n1_ := am (Kd.R_lower (Kd.R_new' ho0 (Kd.R_lt (rr HO374))) (below_size (bb HB)));have n2_ := am (below_step (bb HB) hb);clear HO374 HB;have HO374 := n0_;have HO377 := n1_;have HB := n2_;clear n0_ n1_ n2_;(try clear hb);(try clear hb2);(try clear hk);(try clear hi);(try clear ho0);obtain ⟨Ao14,co14,eo14⟩ := Kd.R_slice HO377.out;subst eo14))
    go_loopg [9,43] kj3 (fun kq v9 v43 w' => ∃ (x9_2 : List (List Int)) (x43_2 : Int),v43 = .int .i64 x43_2 ∧ Aside0 (hyperinvertible_New.l0 kq a0 t372 x9_2 t375 (t375.length : Int) x43_2 = some (r1,r2)) ∧ Aside0 (kq ≤ kj3) ∧ Aside0 (Kd.R (Kd.int .u64) 22 w' w.heap.size (fun k_ => some k_ ≠ ((.slice Ao14 t375.length co14) : Value).ownBlock) v373 t372) ∧ Aside0 (Kd.S (Kd.slice 22 (Kd.int .u64)) 40 w' w.heap.size (fun k_ => some k_ ≠ (v373 : Value).ownBlock ∧ some k_ ≠ ((.slice Ao14 t375.length co14) : Value).ownBlock) v9 x9_2) ∧ Aside0 (Kd.R (Kd.int .u64) 22 w' w.heap.size (fun k_ => some k_ ≠ (v373 : Value).ownBlock) (.slice Ao14 t375.length co14) t375) ∧ Aside0 (Below w.heap.size w w'))
    case atStart => exact ⟨(([] : List (List Int))),(0),(by first|rfl|(simp;done)|(simp [*];done)),H',⟨Nat.le_refl _⟩,⟨by (with_reducible repeat (first|apply Kd.R_alloc|apply Kd.R_drewN|apply Kd.R_drew));exact Kd.R_mono HO374.out (fun _ hk => hk.2)⟩,⟨by first|exact Kd.S_nil _ _ _ _ _|exact Kd.N_nil _ _ _ _ _|exact Kd.V_nil _ _ _ _ _|exact Kd.Q_nil _ _ _ _ _|exact Kd.R_nil _ _ _ _ _⟩,⟨by (with_reducible repeat (first|apply Kd.R_alloc|apply Kd.R_drewN|apply Kd.R_drew));exact Kd.R_mono HO377.out (fun _ hk => hk.2)⟩,⟨bb HB⟩⟩
    case round =>
     clear H'
     try clear c1
     try clear p2
     try clear c3
     try clear c5
     try clear c5b0
     try clear c6
     try clear c6b0
     try clear p6
     try clear c7
     try clear c7b0
     try clear c8
     try clear c8b0
     try clear c9
     try clear c14
     try clear p2
     try clear p6
     obtain ⟨x9_2,x43_2,rfl,HA,HK2,HO_8,HO_9,HO_41,HB⟩ := hrel
     cases gk with
     | zero => exact absurd HA.out (by simp [hyperinvertible_New.l0])
     | succ k2 =>
      have H := HA.out
      clear HA
      simp only [hyperinvertible_New.l0] at H
      by_cases c15 : x43_2 < (t375.length : Int)
      ·rw [if_pos c15] at H
       have c15b0 : decide (x43_2 < (t375.length : Int)) = true := decide_eq_true c15
       clear c15
       by_cases c16 : 0 ≤ x43_2
       ·rw [if_pos c16] at H
        have c16b0 : decide (0 ≤ x43_2) = true := decide_eq_true c16
        clear c16
        by_cases c17 : x43_2 < (t375.length : Int)
        ·rw [if_pos c17] at H
         have c17b0 : decide (x43_2 < (t375.length : Int)) = true := decide_eq_true c17
         clear c17
         replace H := Option.bind_eq_some_iff.mp H
         obtain ⟨⟨t379,t380⟩,A180,H⟩ := H
         try dsimp only at H
         have A18 := am A180
         clear A180
         by_cases c19 : t380 = 0
         ·rw [if_pos c19] at H
          have c19b0 : (t380 == 0) = true := beq_iff_eq.mpr c19
          have c19b1 : (t380 != 0) = false := bne_eq_false_iff_eq.mpr c19
          clear c19
          by_cases c20 : x9_2.length < 5864062014805
          ·rw [if_pos c20] at H
           have LMc20 := am c20
           clear c20
           obtain ⟨y383,hy383⟩ : ∃ y_ : List (List Int),y_ = (x9_2 ++ [t379]) := ⟨_,rfl⟩
           replace H : (hyperinvertible_New.l0 k2 a0 t372 y383 t375 (t375.length : Int) (wrap64 (x43_2 + 1))) = some (r1,r2) := by first|(rw [hy383];with_reducible exact H)|(have H2_ := (Option.bind_some _ _).symm.trans H;rw [hy383];with_reducible exact H2_)|(have H2_ := (Option.bind_some _ _).symm.trans H;with_reducible exact H2_)|with_reducible exact H|(rw [hy383];exact H)|exact H
           have Ny383 := am hy383
           clear hy383
           have H' := am H
           clear H
           have p378 : 0 ≤ (x43_2 : Int) := od
           have q378 : x43_2 < (t375.length : Int) := od
           obtain ⟨ad378,e378,hx378_0⟩ := Kd.at_int (Kd.R_reads' HO_41.out).2.2 x43_2 p378 q378
           cases e378
           replace p378 := eq_true p378
           replace q378 := eq_true q378
           obtain ⟨Ao21,co21,eo21⟩ := Kd.R_slice HO_8.out
           subst eo21
           go_wp2_with (first|((with_reducible refine gate_callee (f := 33) rfl ?_);refine goesL_ (some 51) rfl rfl Try.func33 (by kernel_rfl) rfl #[.int .u64 a0,.slice Ao21 t372.length co21,.int .u64 (rd t375 x43_2)] rfl (by (try simp only [List.map_toArray,List.map_cons,List.map_nil]);first|done|rfl|(simp only [List.length_drop,List.length_take];rfl)) ?_;(with_reducible refine (interpolate_LagrangeWeights.calls a0 _ _ t372 (rd t375 x43_2) t379 t380 _ ?side1 ?side2 A18.out).mono ?_);(case side1 => exact cr HO_8);(case side2 => exact (Kd.R_reads' HO_8.out).2.1);rintro e w22 ⟨v381,rfl,ho0,hb⟩;refine ⟨_,rfl,?_⟩;have n0_ := am (Kd.R_elder' (rr HO_8) (Kd.R_base ho0) hb);have n1_ := am (Kd.S_elder' (by (with_reducible repeat (first|apply Kd.S_alloc|apply Kd.S_drewN|apply Kd.S_drew));exact HO_9.out) (Kd.R_base ho0) hb);have n2_ := am (Kd.R_elder' (rr HO_41) (Kd.R_base ho0) hb);have n3_ := am (Kd.R_lower (Kd.R_new' (Kd.R_new' ho0 (Kd.R_lt (rr HO_8))) (Kd.R_lt (rr HO_41))) (below_size (bb HB)));have n4_ := am (below_step (bb HB) hb);clear HO_8 HO_9 HO_41 HB;have HO_8 := n0_;have HO_9 := n1_;have HO_41 := n2_;have HO382 := n3_;have HB := n4_;clear n0_ n1_ n2_ n3_ n4_;(try clear hb);(try clear hb2);(try clear hk);(try clear hi);(try clear ho0);obtain ⟨Ao24,co24,eo24⟩ := Kd.R_slice HO382.out;subst eo24)|((with_reducible refine gate_builtin (b := .append) (xs := #[.tmp 57,.tmp 59]) rfl ?_);at_builtin;refine Kd.S_append (Kd.slice 22 (Kd.int .u64)) (w0 := w) w.heap.size rfl (.tmp 57) (.tmp 59) 25 40 (.slice none 0 0) 24 rfl Try.underlying25 info40 rfl (by decide) (by omega) u9 x9_2 t379 [.slice Ao24 t379.length co24] (fun k_ => some k_ ≠ (.slice Ao21 t372.length co21 : Value).ownBlock ∧ some k_ ≠ (.slice (some ad378) t375.length co14 : Value).ownBlock) (fun k_ => some k_ = (.slice Ao24 t379.length co24 : Value).ownBlock) rfl rfl ?aP (fun k_ hk_ => ((Kd.R_mono (ok' := fun k_ => ((fun k_ => some k_ ≠ (.slice Ao21 t372.length co21 : Value).ownBlock ∧ some k_ ≠ (.slice (some ad378) t375.length co14 : Value).ownBlock)) k_ ∧ some k_ ≠ (u9 : Value).ownBlock) (Kd.R_apart' (HO382.out) (Kd.S_typed HO_9.out) (by decide)) (fun k_ hk => ⟨⟨hk.1.1.2,hk.1.2⟩,hk.2⟩))).1 k_ hk_.symm) ?aF ?aO ?aB ?aS ?aL ?_;(case aP => exact Kd.M_row (Kd.R_mono (Kd.R_tight rfl (Kd.R_mono (ok' := fun k_ => ((fun k_ => some k_ ≠ (.slice Ao21 t372.length co21 : Value).ownBlock ∧ some k_ ≠ (.slice (some ad378) t375.length co14 : Value).ownBlock)) k_ ∧ some k_ ≠ (u9 : Value).ownBlock) (Kd.R_apart' (HO382.out) (Kd.S_typed HO_9.out) (by decide)) (fun k_ hk => ⟨⟨hk.1.1.2,hk.1.2⟩,hk.2⟩))) (fun _ h_ => h_)));(case aB => exact (bb HB));(case aF => exact (fun k_ hk => ⟨Kd.fresh' (Kd.R_lt (rr HO_8)) k_ hk,Kd.fresh' (Kd.R_lt (rr HO_41)) k_ hk⟩));(case aO => exact (by (with_reducible repeat (first|apply Kd.S_alloc|apply Kd.S_drewN|apply Kd.S_drew));exact Kd.S_mono HO_9.out (fun k_ hk => ⟨⟨hk.1.1,hk.1.2⟩,fun e_ => hk.2 e_⟩)));(case aS => exact (below_size (bb HB)));(case aL => have := LMc20.out;omega);intro v384 w23 ho hb hg hat;rw [← Ny383.out] at ho;have n0_ := am (Kd.R_over' (rr HO_8) (Kd.S_typed (by (with_reducible repeat (first|apply Kd.S_alloc|apply Kd.S_drewN|apply Kd.S_drew));exact HO_9.out)) (by decide) hg);have n1_ := am (Kd.R_over' (rr HO_41) (Kd.S_typed (by (with_reducible repeat (first|apply Kd.S_alloc|apply Kd.S_drewN|apply Kd.S_drew));exact HO_9.out)) (by decide) hg);have n2_ := am (hb);have n3_ := am (ho);clear HO_8 HO_41 HB HO_9 HO382;have HO_8 := n0_;have HO_41 := n1_;have HB := n2_;have HO385 := n3_;clear n0_ n1_ n2_ n3_;clear ho hb hg hat))
           go_roundg k2
           case measure => have := HJ3.out;have := HK2.out;omega
           case rel => exact ⟨(y383),(wrap64 (x43_2 + 1)),(by first|rfl|(simp;done)|(simp [*];done)),H',⟨by have := HJ3.out;have := HK2.out;omega⟩,⟨by (with_reducible repeat (first|apply Kd.R_alloc|apply Kd.R_drewN|apply Kd.R_drew));exact Kd.R_mono HO_8.out (fun _ hk => hk.1)⟩,⟨by (with_reducible repeat (first|apply Kd.S_alloc|apply Kd.S_drewN|apply Kd.S_drew));exact HO385.out⟩,⟨by (with_reducible repeat (first|apply Kd.R_alloc|apply Kd.R_drewN|apply Kd.R_drew));exact Kd.R_mono HO_41.out (fun _ hk => hk.1)⟩,⟨bb HB⟩⟩
          ·rw [if_neg c20] at H
           exact absurd H (by simp)
         ·rw [if_neg c19] at H
          have c19b0 : (t380 == 0) = false := beq_eq_false_iff_ne.mpr c19
          have c19b1 : (t380 != 0) = true := bne_iff_ne.mpr c19
          simp only [Option.some.injEq,Prod.mk.injEq] at H
          obtain ⟨rfl,rfl⟩ := H
          have p378 : 0 ≤ (x43_2 : Int) := od
          have q378 : x43_2 < (t375.length : Int) := od
          obtain ⟨ad378,e378,hx378_0⟩ := Kd.at_int (Kd.R_reads' HO_41.out).2.2 x43_2 p378 q378
          cases e378
          replace p378 := eq_true p378
          replace q378 := eq_true q378
          obtain ⟨Ao25,co25,eo25⟩ := Kd.R_slice HO_8.out
          subst eo25
          go_wp2_with (first|((with_reducible refine gate_callee (f := 33) rfl ?_);refine goesL_ (some 51) rfl rfl Try.func33 (by kernel_rfl) rfl #[.int .u64 a0,.slice Ao25 t372.length co25,.int .u64 (rd t375 x43_2)] rfl (by (try simp only [List.map_toArray,List.map_cons,List.map_nil]);first|done|rfl|(simp only [List.length_drop,List.length_take];rfl)) ?_;(with_reducible refine (interpolate_LagrangeWeights.calls a0 _ _ t372 (rd t375 x43_2) t379 t380 _ ?side1 ?side2 A18.out).mono ?_);(case side1 => exact cr HO_8);(case side2 => exact (Kd.R_reads' HO_8.out).2.1);rintro e w26 ⟨v381,rfl,ho0,hb⟩;refine ⟨_,rfl,?_⟩;have n0_ := am (Kd.R_elder' (rr HO_8) (Kd.R_base ho0) hb);have n1_ := am (Kd.S_elder' (by (with_reducible repeat (first|apply Kd.S_alloc|apply Kd.S_drewN|apply Kd.S_drew));exact HO_9.out) (Kd.R_base ho0) hb);have n2_ := am (Kd.R_elder' (rr HO_41) (Kd.R_base ho0) hb);have n3_ := am (Kd.R_lower (Kd.R_new' (Kd.R_new' ho0 (Kd.R_lt (rr HO_8))) (Kd.R_lt (rr HO_41))) (below_size (bb HB)));have n4_ := am (below_step (bb HB) hb);clear HO_8 HO_9 HO_41 HB;have HO_8 := n0_;have HO_9 := n1_;have HO_41 := n2_;have HO382 := n3_;have HB := n4_;clear n0_ n1_ n2_ n3_ n4_;(try clear hb);(try clear hb2);(try clear hk);(try clear hi);(try clear ho0)))
          go_ret2
          exact ⟨_,by first|rfl|(simp [errW_none,errW_some] <;> rfl)|(simp [*,errW_none,errW_some] <;> rfl),by first|exact Kd.S_nil _ _ _ _ _|exact Kd.N_nil _ _ _ _ _|exact Kd.V_nil _ _ _ _ _|exact Kd.Q_nil _ _ _ _ _|exact Kd.R_nil _ _ _ _ _,bb HB⟩
        ·rw [if_neg c17] at H
         exact absurd H (by simp)
       ·rw [if_neg c16] at H
        exact absurd H (by simp)
      ·rw [if_neg c15] at H
       have c15b0 : decide (x43_2 < (t375.length : Int)) = false := decide_eq_false c15
       clear c15
       simp only [Option.some.injEq,Prod.mk.injEq] at H
       obtain ⟨rfl,rfl⟩ := H
       go_wp2
       go_ret2
       exact ⟨_,by first|rfl|(simp [errW_none,errW_some] <;> rfl)|(simp [*,errW_none,errW_some] <;> rfl),by (with_reducible repeat (first|apply Kd.S_alloc|apply Kd.S_drewN|apply Kd.S_drew));exact Kd.S_mono HO_9.out (fun _ hk => trivial),bb HB⟩
mutual
def hyperinvertible_Submatrix.l0 : Nat → List (List Int) → List Int → List (List Int) → List Int → Int → Int → Option ((List (List Int)) × Int)
 | 0,_,_,_,_,_,_ => none
 | k + 1,x0,x2,x8,x14,x15,x16 => if x16 < x15 then (if 0 ≤ x16 then (if x16 < (x14.length : Int) then (if (rd x14 x16) < 0 then (hyperinvertible_Submatrix.j1 k x0 x2 x8 (rd x14 x16) x14 x15 x16 true) else (hyperinvertible_Submatrix.j1 k x0 x2 x8 (rd x14 x16) x14 x15 x16 (decide ((rd x14 x16) ≥ (x0.length : Int))))) else (none)) else (none)) else (some (x8,0))
def hyperinvertible_Submatrix.j1 : Nat → List (List Int) → List Int → List (List Int) → Int → List Int → Int → Int → Bool → Option ((List (List Int)) × Int)
 | 0,_,_,_,_,_,_,_,_ => none
 | k + 1,x0,x2,x8,x10,x14,x15,x16,x27 => if x27 = true then (some (([] : List (List Int)),1)) else (hyperinvertible_Submatrix.l1 k x0 x2 x8 x10 ([] : List Int) x14 x15 x16 x2 (x2.length : Int) 0)
def hyperinvertible_Submatrix.l1 : Nat → List (List Int) → List Int → List (List Int) → Int → List Int → List Int → Int → Int → List Int → Int → Int → Option ((List (List Int)) × Int)
 | 0,_,_,_,_,_,_,_,_,_,_,_ => none
 | k + 1,x0,x2,x8,x10,x11,x14,x15,x16,x28,x29,x30 => if x30 < x29 then (if 0 ≤ x30 then (if x30 < (x28.length : Int) then (if (rd x28 x30) < 0 then (some (([] : List (List Int)),1)) else (if 0 ≤ x10 then (if x10 < (x0.length : Int) then (if (rd x28 x30) ≥ ((rd_L2 x0 x10).length : Int) then (some (([] : List (List Int)),1)) else (if 0 ≤ (rd x28 x30) then (if (rd x28 x30) < ((rd_L2 x0 x10).length : Int) then (if x11.length < 17592186044416 then (hyperinvertible_Submatrix.l1 k x0 x2 x8 x10 (x11 ++ [rd (rd_L2 x0 x10) (rd x28 x30)]) x14 x15 x16 x28 x29 (wrap64 (x30 + 1))) else (none)) else (none)) else (none))) else (none)) else (none))) else (none)) else (none)) else (if x8.length < 5864062014805 then (hyperinvertible_Submatrix.l0 k x0 x2 (x8 ++ [x11]) x14 x15 (wrap64 (x16 + 1))) else (none))
end
def hyperinvertible_Submatrix.f (k : Nat) (l0 : List (List Int)) (l1 : List Int) (l2 : List Int) : Option ((List (List Int)) × Int) := hyperinvertible_Submatrix.l0 k l0 l2 ([] : List (List Int)) l1 (l1.length : Int) 0
set_option maxHeartbeats 8000000 in
set_option maxRecDepth 100000 in
theorem hyperinvertible_Submatrix.calls (k : Nat) (A0 : Option Addr) (c0 : Nat) (l0 : List (List Int)) (A1 : Option Addr) (c1 : Nat) (l1 : List Int) (A2 : Option Addr) (c2 : Nat) (l2 : List Int) (r1 : List (List Int)) (r2 : Int) (w : World) (hr0 : Kd.C (Kd.slice 22 (Kd.int .u64)) w A0 l0.length l0) (hc0 : l0.length ≤ c0) (hr1 : Kd.C (Kd.int .i64) w A1 l1.length l1) (hc1 : l1.length ≤ c1) (hr2 : Kd.C (Kd.int .i64) w A2 l2.length l2) (hc2 : l2.length ≤ c2) (h : hyperinvertible_Submatrix.f k l0 l1 l2 = some (r1,r2)) :
  Calls Try.prog 18 #[.slice A0 l0.length c0,.slice A1 l1.length c1,.slice A2 l2.length c2] w fun e w' => ∃ v0_ : Value,e = .returned (.tuple #[v0_,.int .i64 r2]) ∧ Kd.S (Kd.slice 22 (Kd.int .u64)) 40 w' w.heap.size (fun _ => True) v0_ r1 ∧ Below w.heap.size w w' := by
 have HR0 := am hr0
 have HC0 := am hc0
 clear hr0 hc0
 have HR1 := am hr1
 have HC1 := am hc1
 clear hr1 hc1
 have HR2 := am hr2
 have HC2 := am hc2
 clear hr2 hc2
 have HB := am (Below.refl w.heap.size w)
 have H : (hyperinvertible_Submatrix.l0 k l0 l2 ([] : List (List Int)) l1 (l1.length : Int) 0) = some (r1,r2) := h
 clear h
 have H' := am H
 clear H
 go_enter Try.func18,Try.ntmps18
 go_wp2
 go_loopg [8,16] k (fun kq v8 v16 w' => ∃ (x8_1 : List (List Int)) (x16_1 : Int),v16 = .int .i64 x16_1 ∧ Aside0 (hyperinvertible_Submatrix.l0 kq l0 l2 x8_1 l1 (l1.length : Int) x16_1 = some (r1,r2)) ∧ Aside0 (kq ≤ k) ∧ Aside0 (Kd.S (Kd.slice 22 (Kd.int .u64)) 40 w' w.heap.size (fun _ => True) v8 x8_1) ∧ Aside0 (Below w.heap.size w w'))
 case atStart => exact ⟨(([] : List (List Int))),(0),(by first|rfl|(simp;done)|(simp [*];done)),H',⟨Nat.le_refl _⟩,⟨by first|exact Kd.S_nil _ _ _ _ _|exact Kd.N_nil _ _ _ _ _|exact Kd.V_nil _ _ _ _ _|exact Kd.Q_nil _ _ _ _ _|exact Kd.R_nil _ _ _ _ _⟩,⟨bb HB⟩⟩
 case round =>
  clear H'
  try clear c1
  try clear c2
  try clear p2
  obtain ⟨x8_1,x16_1,rfl,HA,HK1,HO_8,HB⟩ := hrel
  cases gk with
  | zero => exact absurd HA.out (by simp [hyperinvertible_Submatrix.l0])
  | succ k1 =>
   have H := HA.out
   clear HA
   simp only [hyperinvertible_Submatrix.l0] at H
   by_cases c4 : x16_1 < (l1.length : Int)
   ·rw [if_pos c4] at H
    have c4b0 : decide (x16_1 < (l1.length : Int)) = true := decide_eq_true c4
    clear c4
    by_cases c5 : 0 ≤ x16_1
    ·rw [if_pos c5] at H
     have c5b0 : decide (0 ≤ x16_1) = true := decide_eq_true c5
     clear c5
     by_cases c6 : x16_1 < (l1.length : Int)
     ·rw [if_pos c6] at H
      have c6b0 : decide (x16_1 < (l1.length : Int)) = true := decide_eq_true c6
      clear c6
      have HC7 := am H
      clear H
      have p391 : 0 ≤ (x16_1 : Int) := od
      have q391 : x16_1 < (l1.length : Int) := od
      obtain ⟨ad391,e391,hx391_0⟩ := Kd.at_int HR1.out x16_1 p391 q391
      cases e391
      replace hx391_0 := (HB.out.cell (World.block_lt_of_cell? w _ hx391_0)).trans hx391_0
      replace p391 := eq_true p391
      replace q391 := eq_true q391
      go_upto_region 5 with (fail)
      go_cut [27] (fun v27 wc => ∃ (kq : Nat) (x27_6 : Bool),v27 = .bool x27_6 ∧ Aside0 (hyperinvertible_Submatrix.j1 kq l0 l2 x8_1 (rd l1 x16_1) l1 (l1.length : Int) x16_1 x27_6 = some (r1,r2)) ∧ Aside0 (kq ≤ k1) ∧ Aside0 (Kd.S (Kd.slice 22 (Kd.int .u64)) 40 wc w.heap.size (fun _ => True) u8 x8_1) ∧ Aside0 (Below w.heap.size w wc))
      case first =>
       have H := HC7.out
       clear HC7
       by_cases c8 : (rd l1 x16_1) < 0
       ·rw [if_pos c8] at H
        have c8b0 : decide ((rd l1 x16_1) < 0) = true := decide_eq_true c8
        clear c8
        (first|rw [c8b0]|(simp only [i64_w,i32_w];rw [c8b0])|skip)
        have H' := am H
        clear H
        go_wp2
        go_meet
        case rel => exact ⟨_,(true),(by first|rfl|(simp;done)|(simp [*];done)),H',⟨by have := HK1.out;first|omega|exact Nat.le_refl _⟩,⟨by (with_reducible repeat (first|apply Kd.S_alloc|apply Kd.S_drewN|apply Kd.S_drew));exact HO_8.out⟩,⟨bb HB⟩⟩
       ·rw [if_neg c8] at H
        have c8b0 : decide ((rd l1 x16_1) < 0) = false := decide_eq_false c8
        clear c8
        (first|rw [c8b0]|(simp only [i64_w,i32_w];rw [c8b0])|skip)
        have H' := am H
        clear H
        go_wp2
        go_meet
        case rel => exact ⟨_,(decide ((rd l1 x16_1) ≥ (l0.length : Int))),(by first|rfl|(simp;done)|(simp [*];done)),H',⟨by have := HK1.out;first|omega|exact Nat.le_refl _⟩,⟨by (with_reducible repeat (first|apply Kd.S_alloc|apply Kd.S_drewN|apply Kd.S_drew));exact HO_8.out⟩,⟨bb HB⟩⟩
      case rest =>
       clear HC7
       try clear c1
       try clear c2
       try clear p2
       try clear p3
       try clear q3
       try clear hx3
       try clear c4
       try clear c4b0
       try clear c5
       try clear c5b0
       try clear c6
       try clear c6b0
       try clear c8
       try clear c8b0
       try clear hx391_0
       try clear p2
       try clear p391
       try clear q391
       obtain ⟨kq,x27_6,rfl,HA,HJ6,HO_8,HB⟩ := hcut
       cases kq with
       | zero => exact absurd HA.out (by simp [hyperinvertible_Submatrix.j1])
       | succ kj6 =>
        have H := HA.out
        clear HA
        simp only [hyperinvertible_Submatrix.j1] at H
        by_cases c9 : x27_6 = true
        ·subst c9
         rw [if_pos rfl] at H
         simp only [Option.some.injEq,Prod.mk.injEq] at H
         obtain ⟨rfl,rfl⟩ := H
         go_wp2
         go_ret2
         exact ⟨_,by first|rfl|(simp [errW_none,errW_some] <;> rfl)|(simp [*,errW_none,errW_some] <;> rfl),by first|exact Kd.S_nil _ _ _ _ _|exact Kd.N_nil _ _ _ _ _|exact Kd.V_nil _ _ _ _ _|exact Kd.Q_nil _ _ _ _ _|exact Kd.R_nil _ _ _ _ _,bb HB⟩
        ·replace c9 := Bool.eq_false_iff.mpr c9
         subst c9
         rw [if_neg (show ¬ (false = true) by decide)] at H
         have H' := am H
         clear H
         go_wp2
         go_loopg [11,30] kj6 (fun kq v11 v30 w' => ∃ (x11_3 : List Int) (x30_3 : Int),v30 = .int .i64 x30_3 ∧ Aside0 (hyperinvertible_Submatrix.l1 kq l0 l2 x8_1 (rd l1 x16_1) x11_3 l1 (l1.length : Int) x16_1 l2 (l2.length : Int) x30_3 = some (r1,r2)) ∧ Aside0 (kq ≤ kj6) ∧ Aside0 (Kd.S (Kd.slice 22 (Kd.int .u64)) 40 w' w.heap.size (fun k_ => some k_ ≠ (v11 : Value).ownBlock) u8 x8_1) ∧ Aside0 (Kd.R (Kd.int .u64) 22 w' w.heap.size (fun _ => True) v11 x11_3) ∧ Aside0 (Below w.heap.size w w'))
         case atStart => exact ⟨(([] : List Int)),(0),(by first|rfl|(simp;done)|(simp [*];done)),H',⟨Nat.le_refl _⟩,⟨by (with_reducible repeat (first|apply Kd.S_alloc|apply Kd.S_drewN|apply Kd.S_drew));exact Kd.S_mono HO_8.out (fun _ hk => (by simp [Value.ownBlock]))⟩,⟨by first|exact Kd.R_nil _ _ _ _ _|exact Kd.N_nil _ _ _ _ _|exact Kd.V_nil _ _ _ _ _|exact Kd.Q_nil _ _ _ _ _|exact Kd.S_nil _ _ _ _ _⟩,⟨bb HB⟩⟩
         case round =>
          clear H'
          try clear c1
          try clear c2
          try clear p2
          try clear p3
          try clear q3
          try clear hx3
          try clear c4
          try clear c4b0
          try clear c5
          try clear c5b0
          try clear c6
          try clear c6b0
          try clear c8
          try clear c8b0
          try clear c9
          try clear hx391_0
          try clear p2
          try clear p3
          try clear p391
          try clear q3
          try clear q391
          obtain ⟨x11_3,x30_3,rfl,HA,HK3,HO_8,HO_11,HB⟩ := hrel
          cases gk with
          | zero => exact absurd HA.out (by simp [hyperinvertible_Submatrix.l1])
          | succ k3 =>
           have H := HA.out
           clear HA
           simp only [hyperinvertible_Submatrix.l1] at H
           by_cases c10 : x30_3 < (l2.length : Int)
           ·rw [if_pos c10] at H
            have c10b0 : decide (x30_3 < (l2.length : Int)) = true := decide_eq_true c10
            clear c10
            by_cases c11 : 0 ≤ x30_3
            ·rw [if_pos c11] at H
             have c11b0 : decide (0 ≤ x30_3) = true := decide_eq_true c11
             clear c11
             by_cases c12 : x30_3 < (l2.length : Int)
             ·rw [if_pos c12] at H
              have c12b0 : decide (x30_3 < (l2.length : Int)) = true := decide_eq_true c12
              clear c12
              by_cases c13 : (rd l2 x30_3) < 0
              ·rw [if_pos c13] at H
               have c13b0 : decide ((rd l2 x30_3) < 0) = true := decide_eq_true c13
               clear c13
               simp only [Option.some.injEq,Prod.mk.injEq] at H
               obtain ⟨rfl,rfl⟩ := H
               have p392 : 0 ≤ (x30_3 : Int) := od
               have q392 : x30_3 < (l2.length : Int) := od
               obtain ⟨ad392,e392,hx392_0⟩ := Kd.at_int HR2.out x30_3 p392 q392
               cases e392
               replace hx392_0 := (HB.out.cell (World.block_lt_of_cell? w _ hx392_0)).trans hx392_0
               replace p392 := eq_true p392
               replace q392 := eq_true q392
               go_wp2
               go_ret2
               exact ⟨_,by first|rfl|(simp [errW_none,errW_some] <;> rfl)|(simp [*,errW_none,errW_some] <;> rfl),by first|exact Kd.S_nil _ _ _ _ _|exact Kd.N_nil _ _ _ _ _|exact Kd.V_nil _ _ _ _ _|exact Kd.Q_nil _ _ _ _ _|exact Kd.R_nil _ _ _ _ _,bb HB⟩
              ·rw [if_neg c13] at H
               have c13b0 : decide ((rd l2 x30_3) < 0) = false := decide_eq_false c13
               clear c13
               by_cases c14 : 0 ≤ (rd l1 x16_1)
               ·rw [if_pos c14] at H
                have c14b0 : decide (0 ≤ (rd l1 x16_1)) = true := decide_eq_true c14
                clear c14
                by_cases c15 : (rd l1 x16_1) < (l0.length : Int)
                ·rw [if_pos c15] at H
                 have c15b0 : decide ((rd l1 x16_1) < (l0.length : Int)) = true := decide_eq_true c15
                 clear c15
                 by_cases c16 : (rd l2 x30_3) ≥ ((rd_L2 l0 (rd l1 x16_1)).length : Int)
                 ·rw [if_pos c16] at H
                  have c16b0 : decide (((rd_L2 l0 (rd l1 x16_1)).length : Int) ≤ (rd l2 x30_3)) = true := decide_eq_true c16
                  clear c16
                  simp only [Option.some.injEq,Prod.mk.injEq] at H
                  obtain ⟨rfl,rfl⟩ := H
                  have p392 : 0 ≤ (x30_3 : Int) := od
                  have q392 : x30_3 < (l2.length : Int) := od
                  obtain ⟨ad392,e392,hx392_0⟩ := Kd.at_int HR2.out x30_3 p392 q392
                  cases e392
                  replace hx392_0 := (HB.out.cell (World.block_lt_of_cell? w _ hx392_0)).trans hx392_0
                  replace p392 := eq_true p392
                  replace q392 := eq_true q392
                  have p393 : 0 ≤ ((rd l1 x16_1) : Int) := od
                  have q393 : (rd l1 x16_1) < (l0.length : Int) := od
                  obtain ⟨ad393,A393_0,c393_0,e393,hx393_0,hl393_0,hi393_0⟩ := at_L2 HR0.out (rd l1 x16_1) p393 q393
                  cases e393
                  replace hx393_0 := (HB.out.cell (World.block_lt_of_cell? w _ hx393_0)).trans hx393_0
                  have HR393_0 := am hi393_0
                  have HC393_0 := am hl393_0
                  clear hi393_0 hl393_0
                  replace p393 := eq_true p393
                  replace q393 := eq_true q393
                  go_wp2
                  go_ret2
                  exact ⟨_,by first|rfl|(simp [errW_none,errW_some] <;> rfl)|(simp [*,errW_none,errW_some] <;> rfl),by first|exact Kd.S_nil _ _ _ _ _|exact Kd.N_nil _ _ _ _ _|exact Kd.V_nil _ _ _ _ _|exact Kd.Q_nil _ _ _ _ _|exact Kd.R_nil _ _ _ _ _,bb HB⟩
                 ·rw [if_neg c16] at H
                  have c16b0 : decide (((rd_L2 l0 (rd l1 x16_1)).length : Int) ≤ (rd l2 x30_3)) = false := decide_eq_false c16
                  clear c16
                  by_cases c17 : 0 ≤ (rd l2 x30_3)
                  ·rw [if_pos c17] at H
                   have c17b0 : decide (0 ≤ (rd l2 x30_3)) = true := decide_eq_true c17
                   clear c17
                   by_cases c18 : (rd l2 x30_3) < ((rd_L2 l0 (rd l1 x16_1)).length : Int)
                   ·rw [if_pos c18] at H
                    have c18b0 : decide ((rd l2 x30_3) < ((rd_L2 l0 (rd l1 x16_1)).length : Int)) = true := decide_eq_true c18
                    clear c18
                    by_cases c19 : x11_3.length < 17592186044416
                    ·rw [if_pos c19] at H
                     have LMc19 := am c19
                     clear c19
                     obtain ⟨y396,hy396⟩ : ∃ y_ : List Int,y_ = (x11_3 ++ [rd (rd_L2 l0 (rd l1 x16_1)) (rd l2 x30_3)]) := ⟨_,rfl⟩
                     replace H : (hyperinvertible_Submatrix.l1 k3 l0 l2 x8_1 (rd l1 x16_1) y396 l1 (l1.length : Int) x16_1 l2 (l2.length : Int) (wrap64 (x30_3 + 1))) = some (r1,r2) := by first|(rw [hy396];with_reducible exact H)|(have H2_ := (Option.bind_some _ _).symm.trans H;rw [hy396];with_reducible exact H2_)|(have H2_ := (Option.bind_some _ _).symm.trans H;with_reducible exact H2_)|with_reducible exact H|(rw [hy396];exact H)|exact H
                     have Ny396 := am hy396
                     clear hy396
                     have H' := am H
                     clear H
                     have p392 : 0 ≤ (x30_3 : Int) := od
                     have q392 : x30_3 < (l2.length : Int) := od
                     obtain ⟨ad392,e392,hx392_0⟩ := Kd.at_int HR2.out x30_3 p392 q392
                     cases e392
                     replace hx392_0 := (HB.out.cell (World.block_lt_of_cell? w _ hx392_0)).trans hx392_0
                     replace p392 := eq_true p392
                     replace q392 := eq_true q392
                     have p393 : 0 ≤ ((rd l1 x16_1) : Int) := od
                     have q393 : (rd l1 x16_1) < (l0.length : Int) := od
                     obtain ⟨ad393,A393_0,c393_0,e393,hx393_0,hl393_0,hi393_0⟩ := at_L2 HR0.out (rd l1 x16_1) p393 q393
                     cases e393
                     replace hx393_0 := (HB.out.cell (World.block_lt_of_cell? w _ hx393_0)).trans hx393_0
                     have HR393_0 := am hi393_0
                     have HC393_0 := am hl393_0
                     clear hi393_0 hl393_0
                     replace p393 := eq_true p393
                     replace q393 := eq_true q393
                     have p394 : 0 ≤ ((rd l1 x16_1) : Int) := od
                     have q394 : (rd l1 x16_1) < (l0.length : Int) := od
                     obtain ⟨ad394,A394_0,c394_0,e394,hx394_0,hl394_0,hi394_0⟩ := at_L2 HR0.out (rd l1 x16_1) p394 q394
                     obtain rfl : ad393 = ad394 := (by injection e394)
                     replace hx394_0 := (HB.out.cell (World.block_lt_of_cell? w _ hx394_0)).trans hx394_0
                     have HR394_0 := am hi394_0
                     have HC394_0 := am hl394_0
                     clear hi394_0 hl394_0
                     replace p394 := eq_true p394
                     replace q394 := eq_true q394
                     have ea_ := Option.some.inj (hx393_0.symm.trans hx394_0)
                     injection ea_ with ea_ en_ ec_
                     subst ea_
                     subst ec_
                     clear en_
                     have p395 : 0 ≤ ((rd l2 x30_3) : Int) := od
                     have q395 : (rd l2 x30_3) < ((rd_L2 l0 (rd l1 x16_1)).length : Int) := od
                     obtain ⟨ad395,e395,hx395_0⟩ := Kd.at_int HR394_0.out (rd l2 x30_3) p395 q395
                     cases e395
                     replace hx395_0 := (HB.out.cell (World.block_lt_of_cell? w _ hx395_0)).trans hx395_0
                     replace p395 := eq_true p395
                     replace q395 := eq_true q395
                     go_wp2_with (first|((with_reducible refine gate_builtin (b := .append) (xs := #[.tmp 45,.tmp 53]) rfl ?_);(try (refine gate_guard (by rfl) ?_;dsimp only));at_builtin;refine Kd.R_append (Kd.int .u64) (w0 := w) w.heap.size rfl (.tmp 45) (.tmp 53) 40 22 (.int .u64 0) 8 rfl Try.underlying40 info22 rfl (by decide) (by omega) u11 x11_3 (rd (rd_L2 l0 (rd l1 x16_1)) (rd l2 x30_3)) [.int .u64 (rd (rd_L2 l0 (rd l1 x16_1)) (rd l2 x30_3))] (fun _ => True) (fun _ => False) rfl rfl ?aP (fun _ hk => hk.elim) ?aF ?aO ?aB ?aS ?aL ?_;(case aP => exact rfl);(case aB => exact (bb HB));(case aF => exact (fun _ _ => trivial));(case aO => exact (rr HO_11));(case aS => exact (below_size (bb HB)));(case aL => have := LMc19.out;omega);intro v397 w20 ho hb hg hat;rw [← Ny396.out] at ho;have n0_ := am (Kd.S_after (ok := (fun _ => True)) (by (with_reducible repeat (first|apply Kd.S_alloc|apply Kd.S_drewN|apply Kd.S_drew));exact Kd.S_mono HO_8.out (fun _ hk => ⟨trivial,hk⟩)) hg hat);have n1_ := am (hb);have n2_ := am (ho);clear HO_8 HB HO_11;have HO_8 := n0_;have HB := n1_;have HO398 := n2_;clear n0_ n1_ n2_;clear ho hb hg hat))
                     go_roundg k3
                     case measure => have := HK1.out;have := HJ6.out;have := HK3.out;omega
                     case rel => exact ⟨(y396),(wrap64 (x30_3 + 1)),(by first|rfl|(simp;done)|(simp [*];done)),H',⟨by have := HK1.out;have := HJ6.out;have := HK3.out;omega⟩,⟨by (with_reducible repeat (first|apply Kd.S_alloc|apply Kd.S_drewN|apply Kd.S_drew));exact Kd.S_mono HO_8.out (fun _ hk => hk.2)⟩,⟨by (with_reducible repeat (first|apply Kd.R_alloc|apply Kd.R_drewN|apply Kd.R_drew));exact HO398.out⟩,⟨bb HB⟩⟩
                    ·rw [if_neg c19] at H
                     exact absurd H (by simp)
                   ·rw [if_neg c18] at H
                    exact absurd H (by simp)
                  ·rw [if_neg c17] at H
                   exact absurd H (by simp)
                ·rw [if_neg c15] at H
                 exact absurd H (by simp)
               ·rw [if_neg c14] at H
                exact absurd H (by simp)
             ·rw [if_neg c12] at H
              exact absurd H (by simp)
            ·rw [if_neg c11] at H
             exact absurd H (by simp)
           ·rw [if_neg c10] at H
            have c10b0 : decide (x30_3 < (l2.length : Int)) = false := decide_eq_false c10
            clear c10
            by_cases c21 : x8_1.length < 5864062014805
            ·rw [if_pos c21] at H
             have LMc21 := am c21
             clear c21
             obtain ⟨y399,hy399⟩ : ∃ y_ : List (List Int),y_ = (x8_1 ++ [x11_3]) := ⟨_,rfl⟩
             replace H : (hyperinvertible_Submatrix.l0 k3 l0 l2 y399 l1 (l1.length : Int) (wrap64 (x16_1 + 1))) = some (r1,r2) := by first|(rw [hy399];with_reducible exact H)|(have H2_ := (Option.bind_some _ _).symm.trans H;rw [hy399];with_reducible exact H2_)|(have H2_ := (Option.bind_some _ _).symm.trans H;with_reducible exact H2_)|with_reducible exact H|(rw [hy399];exact H)|exact H
             have Ny399 := am hy399
             clear hy399
             have H' := am H
             clear H
             obtain ⟨Ao23,co23,eo23⟩ := Kd.R_slice HO_11.out
             subst eo23
             go_wp2_with (first|((with_reducible refine gate_builtin (b := .append) (xs := #[.tmp 56,.tmp 58]) rfl ?_);(try (refine gate_guard (by rfl) ?_;dsimp only));at_builtin;refine Kd.S_append (Kd.slice 22 (Kd.int .u64)) (w0 := w) w.heap.size rfl (.tmp 56) (.tmp 58) 25 40 (.slice none 0 0) 24 rfl Try.underlying25 info40 rfl (by decide) (by omega) u8 x8_1 x11_3 [.slice Ao23 x11_3.length co23] (fun _ => True) (fun k_ => some k_ = (.slice Ao23 x11_3.length co23 : Value).ownBlock) rfl rfl ?aP (fun k_ hk_ => ((Kd.R_mono (ok' := fun k_ => ((fun _ => True)) k_ ∧ some k_ ≠ (u8 : Value).ownBlock) (Kd.R_apart' (HO_11.out) (Kd.S_typed HO_8.out) (by decide)) (fun k_ hk => ⟨trivial,hk.2⟩))).1 k_ hk_.symm) ?aF ?aO ?aB ?aS ?aL ?_;(case aP => exact Kd.M_row (Kd.R_mono (Kd.R_tight rfl (Kd.R_mono (ok' := fun k_ => ((fun _ => True)) k_ ∧ some k_ ≠ (u8 : Value).ownBlock) (Kd.R_apart' (HO_11.out) (Kd.S_typed HO_8.out) (by decide)) (fun k_ hk => ⟨trivial,hk.2⟩))) (fun _ h_ => h_)));(case aB => exact (bb HB));(case aF => exact (fun _ _ => trivial));(case aO => exact (by (with_reducible repeat (first|apply Kd.S_alloc|apply Kd.S_drewN|apply Kd.S_drew));exact Kd.S_mono HO_8.out (fun k_ hk => ⟨trivial,fun e_ => hk e_⟩)));(case aS => exact (below_size (bb HB)));(case aL => have := LMc21.out;omega);intro v400 w22 ho hb hg hat;rw [← Ny399.out] at ho;have n0_ := am (hb);have n1_ := am (ho);clear HB HO_8 HO_11;have HB := n0_;have HO401 := n1_;clear n0_ n1_;clear ho hb hg hat))
             go_roundg k3
             case measure => have := HK1.out;have := HJ6.out;have := HK3.out;omega
             case rel => exact ⟨(y399),(wrap64 (x16_1 + 1)),(by first|rfl|(simp;done)|(simp [*];done)),H',⟨by have := HK1.out;have := HJ6.out;have := HK3.out;omega⟩,⟨by (with_reducible repeat (first|apply Kd.S_alloc|apply Kd.S_drewN|apply Kd.S_drew));exact HO401.out⟩,⟨bb HB⟩⟩
            ·rw [if_neg c21] at H
             exact absurd H (by simp)
     ·rw [if_neg c6] at H
      exact absurd H (by simp)
    ·rw [if_neg c5] at H
     exact absurd H (by simp)
   ·rw [if_neg c4] at H
    have c4b0 : decide (x16_1 < (l1.length : Int)) = false := decide_eq_false c4
    clear c4
    simp only [Option.some.injEq,Prod.mk.injEq] at H
    obtain ⟨rfl,rfl⟩ := H
    go_wp2
    go_ret2
    exact ⟨_,by first|rfl|(simp [errW_none,errW_some] <;> rfl)|(simp [*,errW_none,errW_some] <;> rfl),by (with_reducible repeat (first|apply Kd.S_alloc|apply Kd.S_drewN|apply Kd.S_drew));exact HO_8.out,bb HB⟩
def privityref05_Same.l0 : Nat → List Int → List Int → Int → Option (Bool)
 | 0,_,_,_ => none
 | k + 1,x0,x1,x5 => if x5 < (x0.length : Int) then (if 0 ≤ x5 then (if x5 < (x1.length : Int) then (if (rd x0 x5) = (rd x1 x5) then (privityref05_Same.l0 k x0 x1 (wrap64 (x5 + 1))) else (some false)) else (none)) else (none)) else (some true)
def privityref05_Same.f (k : Nat) (l0 : List Int) (l1 : List Int) : Option (Bool) := if (l0.length : Int) = (l1.length : Int) then (privityref05_Same.l0 k l0 l1 0) else (some false)
theorem privityref05_Same.mono_l : ∀ k,(∀ y0 y1 y2,LeO (privityref05_Same.l0 k y0 y1 y2) (privityref05_Same.l0 (k + 1) y0 y1 y2))
 | 0 => fun _ _ _ r h => by simp [privityref05_Same.l0] at h
 | k + 1 => by
  have ih0 := privityref05_Same.mono_l k
  ·intro y0 y1 y2
   unfold privityref05_Same.l0
   repeat' first
   | (with_reducible exact ih0 _ _ _)
   | (with_reducible exact LeO.refl _)
   | (with_reducible exact LeO.none _)
   | (with_reducible refine LeO.ite ?_ ?_)
   | (with_reducible refine LeO.bind ?_ (fun _ => ?_))
   | exact ih0 _ _ _
   | exact LeO.none _
   | refine LeO.ite ?_ ?_
   | refine LeO.bind ?_ (fun _ => ?_)
theorem privityref05_Same.mono : ∀ a0 a1 k,LeO (privityref05_Same.f k a0 a1) (privityref05_Same.f (k + 1) a0 a1) := by
 intro a0 a1 k
 have ih0 := privityref05_Same.mono_l k
 unfold privityref05_Same.f
 repeat' first
   | (with_reducible exact ih0 _ _ _)
   | (with_reducible exact LeO.refl _)
   | (with_reducible exact LeO.none _)
   | (with_reducible refine LeO.ite ?_ ?_)
   | (with_reducible refine LeO.bind ?_ (fun _ => ?_))
   | exact ih0 _ _ _
   | exact LeO.none _
   | refine LeO.ite ?_ ?_
   | refine LeO.bind ?_ (fun _ => ?_)
set_option maxHeartbeats 8000000 in
set_option maxRecDepth 100000 in
theorem privityref05_Same.calls (k : Nat) (A0 : Option Addr) (c0 : Nat) (l0 : List Int) (A1 : Option Addr) (c1 : Nat) (l1 : List Int) (r : Bool) (w : World) (hr0 : Kd.C (Kd.int .u64) w A0 l0.length l0) (hc0 : l0.length ≤ c0) (hr1 : Kd.C (Kd.int .u64) w A1 l1.length l1) (hc1 : l1.length ≤ c1) (h : privityref05_Same.f k l0 l1 = some r) :
  Calls Try.prog 24 #[.slice A0 l0.length c0,.slice A1 l1.length c1] w fun e w' => e = .returned (.bool r) ∧ Drawn0 w w' := by
 have HR0 := am hr0
 have HC0 := am hc0
 clear hr0 hc0
 have HR1 := am hr1
 have HC1 := am hc1
 clear hr1 hc1
 have H : (if (l0.length : Int) = (l1.length : Int) then (privityref05_Same.l0 k l0 l1 0) else (some false)) = some r := h
 clear h
 by_cases c3 : (l0.length : Int) = (l1.length : Int)
 ·rw [if_pos c3] at H
  have c3b0 : ((l0.length : Int) == (l1.length : Int)) = true := beq_iff_eq.mpr c3
  have c3b1 : ((l0.length : Int) != (l1.length : Int)) = false := bne_eq_false_iff_eq.mpr c3
  have c3b2 : (l0.length == l1.length) = true := by first|simpa using c3|(simp at c3 ⊢;omega)
  clear c3
  have H' := am H
  clear H
  go_enter Try.func24,Try.ntmps24
  go_wp2
  repeat (go_quiet (fail);try go_wp2)
  go_loopg [5] k (fun kq v5 w' => ∃ (x5_1 : Int),v5 = .int .i64 x5_1 ∧ Aside0 (privityref05_Same.l0 kq l0 l1 x5_1 = some r) ∧ Aside0 (kq ≤ k) ∧ Drawn0 w w')
  case atStart => exact ⟨(0),(by first|rfl|(simp;done)|(simp [*];done)),H',⟨Nat.le_refl _⟩,by repeat (first|exact Drawn0.refl _|apply Drawn0.step)⟩
  case round =>
   clear H'
   try clear c1
   try clear c2
   try clear p2
   try clear c3
   try clear c3b0
   try clear c3b1
   try clear c3b2
   obtain ⟨x5_1,rfl,HA,HK1,⟨m1,rfl⟩⟩ := hrel
   cases gk with
   | zero => exact absurd HA.out (by simp [privityref05_Same.l0])
   | succ k1 =>
    have H := HA.out
    clear HA
    simp only [privityref05_Same.l0] at H
    by_cases c4 : x5_1 < (l0.length : Int)
    ·rw [if_pos c4] at H
     have c4b0 : decide (x5_1 < (l0.length : Int)) = true := decide_eq_true c4
     clear c4
     by_cases c5 : 0 ≤ x5_1
     ·rw [if_pos c5] at H
      have c5b0 : decide (0 ≤ x5_1) = true := decide_eq_true c5
      clear c5
      by_cases c6 : x5_1 < (l1.length : Int)
      ·rw [if_pos c6] at H
       have c6b0 : decide (x5_1 < (l1.length : Int)) = true := decide_eq_true c6
       clear c6
       by_cases c7 : (rd l0 x5_1) = (rd l1 x5_1)
       ·rw [if_pos c7] at H
        have c7b0 : ((rd l0 x5_1) == (rd l1 x5_1)) = true := beq_iff_eq.mpr c7
        have c7b1 : ((rd l0 x5_1) != (rd l1 x5_1)) = false := bne_eq_false_iff_eq.mpr c7
        clear c7
        have H' := am H
        clear H
        have p386 : 0 ≤ (x5_1 : Int) := od
        have q386 : x5_1 < (l0.length : Int) := od
        obtain ⟨ad386,e386,hx386_0⟩ := Kd.at_int HR0.out x5_1 p386 q386
        cases e386
        replace p386 := eq_true p386
        replace q386 := eq_true q386
        have p387 : 0 ≤ (x5_1 : Int) := od
        have q387 : x5_1 < (l1.length : Int) := od
        obtain ⟨ad387,e387,hx387_0⟩ := Kd.at_int HR1.out x5_1 p387 q387
        cases e387
        replace p387 := eq_true p387
        replace q387 := eq_true q387
        go_wp2
        repeat (go_quiet (fail);try go_wp2)
        go_roundg k1
        case measure => have := HK1.out;omega
        case rel => exact ⟨(wrap64 (x5_1 + 1)),(by first|rfl|(simp;done)|(simp [*];done)),H',⟨by have := HK1.out;omega⟩,by repeat (first|exact Drawn0.refl _|apply Drawn0.step)⟩
       ·rw [if_neg c7] at H
        have c7b0 : ((rd l0 x5_1) == (rd l1 x5_1)) = false := beq_eq_false_iff_ne.mpr c7
        have c7b1 : ((rd l0 x5_1) != (rd l1 x5_1)) = true := bne_iff_ne.mpr c7
        obtain rfl := Option.some.inj H
        have p386 : 0 ≤ (x5_1 : Int) := od
        have q386 : x5_1 < (l0.length : Int) := od
        obtain ⟨ad386,e386,hx386_0⟩ := Kd.at_int HR0.out x5_1 p386 q386
        cases e386
        replace p386 := eq_true p386
        replace q386 := eq_true q386
        have p387 : 0 ≤ (x5_1 : Int) := od
        have q387 : x5_1 < (l1.length : Int) := od
        obtain ⟨ad387,e387,hx387_0⟩ := Kd.at_int HR1.out x5_1 p387 q387
        cases e387
        replace p387 := eq_true p387
        replace q387 := eq_true q387
        go_wp2
        repeat (go_quiet (fail);try go_wp2)
        go_ret
        exact ⟨by first|rfl|(simp;done)|(simp [*];done),by repeat (first|exact Drawn0.refl _|apply Drawn0.step)⟩
      ·rw [if_neg c6] at H
       exact absurd H (by simp)
     ·rw [if_neg c5] at H
      exact absurd H (by simp)
    ·rw [if_neg c4] at H
     have c4b0 : decide (x5_1 < (l0.length : Int)) = false := decide_eq_false c4
     clear c4
     obtain rfl := Option.some.inj H
     go_wp2
     repeat (go_quiet (fail);try go_wp2)
     go_ret
     exact ⟨by first|rfl|(simp;done)|(simp [*];done),by repeat (first|exact Drawn0.refl _|apply Drawn0.step)⟩
 ·rw [if_neg c3] at H
  have c3b0 : ((l0.length : Int) == (l1.length : Int)) = false := beq_eq_false_iff_ne.mpr c3
  have c3b1 : ((l0.length : Int) != (l1.length : Int)) = true := bne_iff_ne.mpr c3
  have c3b2 : (l0.length == l1.length) = false := by first|simpa using c3|(simp at c3 ⊢;omega)
  obtain rfl := Option.some.inj H
  go_enter Try.func24,Try.ntmps24
  go_wp2
  repeat (go_quiet (fail);try go_wp2)
  go_ret
  exact ⟨by first|rfl|(simp;done)|(simp [*];done),by repeat (first|exact Drawn0.refl _|apply Drawn0.step)⟩
def privityref05_SameRows.l0 : Nat → List (List Int) → List (List Int) → Int → Option (Bool)
 | 0,_,_,_ => none
 | k + 1,x0,x1,x5 => if x5 < (x0.length : Int) then (if 0 ≤ x5 then (if x5 < (x1.length : Int) then ((privityref05_Same.f k (rd_L2 x0 x5) (rd_L2 x1 x5)).bind fun t390 => (if t390 = true then (privityref05_SameRows.l0 k x0 x1 (wrap64 (x5 + 1))) else (some false))) else (none)) else (none)) else (some true)
def privityref05_SameRows.f (k : Nat) (l0 : List (List Int)) (l1 : List (List Int)) : Option (Bool) := if (l0.length : Int) = (l1.length : Int) then (privityref05_SameRows.l0 k l0 l1 0) else (some false)
theorem privityref05_SameRows.mono_l : ∀ k,(∀ y0 y1 y2,LeO (privityref05_SameRows.l0 k y0 y1 y2) (privityref05_SameRows.l0 (k + 1) y0 y1 y2))
 | 0 => fun _ _ _ r h => by simp [privityref05_SameRows.l0] at h
 | k + 1 => by
  have ih0 := privityref05_SameRows.mono_l k
  ·intro y0 y1 y2
   unfold privityref05_SameRows.l0
   repeat' first
   | (with_reducible exact ih0 _ _ _)
   | (with_reducible exact privityref05_Same.mono _ _ _)
   | (with_reducible exact LeO.refl _)
   | (with_reducible exact LeO.none _)
   | (with_reducible refine LeO.ite ?_ ?_)
   | (with_reducible refine LeO.bind ?_ (fun _ => ?_))
   | exact ih0 _ _ _
   | exact privityref05_Same.mono _ _ _
   | exact LeO.none _
   | refine LeO.ite ?_ ?_
   | refine LeO.bind ?_ (fun _ => ?_)
theorem privityref05_SameRows.mono : ∀ a0 a1 k,LeO (privityref05_SameRows.f k a0 a1) (privityref05_SameRows.f (k + 1) a0 a1) := by
 intro a0 a1 k
 have ih0 := privityref05_SameRows.mono_l k
 unfold privityref05_SameRows.f
 repeat' first
   | (with_reducible exact ih0 _ _ _)
   | (with_reducible exact privityref05_Same.mono _ _ _)
   | (with_reducible exact LeO.refl _)
   | (with_reducible exact LeO.none _)
   | (with_reducible refine LeO.ite ?_ ?_)
   | (with_reducible refine LeO.bind ?_ (fun _ => ?_))
   | exact ih0 _ _ _
   | exact privityref05_Same.mono _ _ _
   | exact LeO.none _
   | refine LeO.ite ?_ ?_
   | refine LeO.bind ?_ (fun _ => ?_)
set_option maxHeartbeats 8000000 in
set_option maxRecDepth 100000 in
theorem privityref05_SameRows.calls (k : Nat) (A0 : Option Addr) (c0 : Nat) (l0 : List (List Int)) (A1 : Option Addr) (c1 : Nat) (l1 : List (List Int)) (r : Bool) (w : World) (hr0 : Kd.C (Kd.slice 22 (Kd.int .u64)) w A0 l0.length l0) (hc0 : l0.length ≤ c0) (hr1 : Kd.C (Kd.slice 22 (Kd.int .u64)) w A1 l1.length l1) (hc1 : l1.length ≤ c1) (h : privityref05_SameRows.f k l0 l1 = some r) :
  Calls Try.prog 16 #[.slice A0 l0.length c0,.slice A1 l1.length c1] w fun e w' => e = .returned (.bool r) ∧ Drawn0 w w' := by
 have HR0 := am hr0
 have HC0 := am hc0
 clear hr0 hc0
 have HR1 := am hr1
 have HC1 := am hc1
 clear hr1 hc1
 have H : (if (l0.length : Int) = (l1.length : Int) then (privityref05_SameRows.l0 k l0 l1 0) else (some false)) = some r := h
 clear h
 by_cases c3 : (l0.length : Int) = (l1.length : Int)
 ·rw [if_pos c3] at H
  have c3b0 : ((l0.length : Int) == (l1.length : Int)) = true := beq_iff_eq.mpr c3
  have c3b1 : ((l0.length : Int) != (l1.length : Int)) = false := bne_eq_false_iff_eq.mpr c3
  have c3b2 : (l0.length == l1.length) = true := by first|simpa using c3|(simp at c3 ⊢;omega)
  clear c3
  have H' := am H
  clear H
  go_enter Try.func16,Try.ntmps16
  go_wp2
  repeat (go_quiet (fail);try go_wp2)
  go_loopg [5] k (fun kq v5 w' => ∃ (x5_1 : Int),v5 = .int .i64 x5_1 ∧ Aside0 (privityref05_SameRows.l0 kq l0 l1 x5_1 = some r) ∧ Aside0 (kq ≤ k) ∧ Drawn0 w w')
  case atStart => exact ⟨(0),(by first|rfl|(simp;done)|(simp [*];done)),H',⟨Nat.le_refl _⟩,by repeat (first|exact Drawn0.refl _|apply Drawn0.step)⟩
  case round =>
   clear H'
   try clear c1
   try clear p2
   try clear c3
   try clear c3b0
   try clear c3b1
   try clear c3b2
   obtain ⟨x5_1,rfl,HA,HK1,⟨m1,rfl⟩⟩ := hrel
   cases gk with
   | zero => exact absurd HA.out (by simp [privityref05_SameRows.l0])
   | succ k1 =>
    have H := HA.out
    clear HA
    simp only [privityref05_SameRows.l0] at H
    by_cases c4 : x5_1 < (l0.length : Int)
    ·rw [if_pos c4] at H
     have c4b0 : decide (x5_1 < (l0.length : Int)) = true := decide_eq_true c4
     clear c4
     by_cases c5 : 0 ≤ x5_1
     ·rw [if_pos c5] at H
      have c5b0 : decide (0 ≤ x5_1) = true := decide_eq_true c5
      clear c5
      by_cases c6 : x5_1 < (l1.length : Int)
      ·rw [if_pos c6] at H
       have c6b0 : decide (x5_1 < (l1.length : Int)) = true := decide_eq_true c6
       clear c6
       replace H := Option.bind_eq_some_iff.mp H
       obtain ⟨t390,A70,H⟩ := H
       try dsimp only at H
       have A7 := am A70
       clear A70
       by_cases c8 : t390 = true
       ·subst c8
        rw [if_pos rfl] at H
        have H' := am H
        clear H
        have p388 : 0 ≤ (x5_1 : Int) := od
        have q388 : x5_1 < (l0.length : Int) := od
        obtain ⟨ad388,A388_0,c388_0,e388,hx388_0,hl388_0,hi388_0⟩ := at_L2 HR0.out x5_1 p388 q388
        cases e388
        have HR388_0 := am hi388_0
        have HC388_0 := am hl388_0
        clear hi388_0 hl388_0
        replace p388 := eq_true p388
        replace q388 := eq_true q388
        have p389 : 0 ≤ (x5_1 : Int) := od
        have q389 : x5_1 < (l1.length : Int) := od
        obtain ⟨ad389,A389_0,c389_0,e389,hx389_0,hl389_0,hi389_0⟩ := at_L2 HR1.out x5_1 p389 q389
        cases e389
        have HR389_0 := am hi389_0
        have HC389_0 := am hl389_0
        clear hi389_0 hl389_0
        replace p389 := eq_true p389
        replace q389 := eq_true q389
        go_wp2_with (first|(go_at_call 24;(with_reducible refine (privityref05_Same.calls k1 _ _ (rd_L2 l0 x5_1) _ _ (rd_L2 l1 x5_1) true _ ?side1 ?side2 ?side3 ?side4 A7.out).mono ?_);(case side1 => repeat (first|exact HR388_0.out|(with_reducible refine Kd.C_alloc ?_ _)|(with_reducible refine Kd.C_drewN ?_ _)|(with_reducible refine Kd.C_drew ?_)));(case side2 => exact HC388_0.out);(case side3 => repeat (first|exact HR389_0.out|(with_reducible refine Kd.C_alloc ?_ _)|(with_reducible refine Kd.C_drewN ?_ _)|(with_reducible refine Kd.C_drew ?_)));(case side4 => exact HC389_0.out);rintro e w' ⟨rfl,⟨nd,rfl⟩⟩;(try first|exact ⟨rfl,_,World.drewN_drewN _ _ _⟩|exact ⟨rfl,_,Eq.trans (World.drewN_drewN _ _ _) (congrArg (World.drewN _) (Nat.add_assoc _ _ _))⟩)))
        repeat (go_quiet (first|(go_at_call 24;(with_reducible refine (privityref05_Same.calls k1 _ _ (rd_L2 l0 x5_1) _ _ (rd_L2 l1 x5_1) true _ ?side1 ?side2 ?side3 ?side4 A7.out).mono ?_);(case side1 => repeat (first|exact HR388_0.out|(with_reducible refine Kd.C_alloc ?_ _)|(with_reducible refine Kd.C_drewN ?_ _)|(with_reducible refine Kd.C_drew ?_)));(case side2 => exact HC388_0.out);(case side3 => repeat (first|exact HR389_0.out|(with_reducible refine Kd.C_alloc ?_ _)|(with_reducible refine Kd.C_drewN ?_ _)|(with_reducible refine Kd.C_drew ?_)));(case side4 => exact HC389_0.out);rintro e w' ⟨rfl,⟨nd,rfl⟩⟩;(try first|exact ⟨rfl,_,World.drewN_drewN _ _ _⟩|exact ⟨rfl,_,Eq.trans (World.drewN_drewN _ _ _) (congrArg (World.drewN _) (Nat.add_assoc _ _ _))⟩)));try go_wp2_with (first|(go_at_call 24;(with_reducible refine (privityref05_Same.calls k1 _ _ (rd_L2 l0 x5_1) _ _ (rd_L2 l1 x5_1) true _ ?side1 ?side2 ?side3 ?side4 A7.out).mono ?_);(case side1 => repeat (first|exact HR388_0.out|(with_reducible refine Kd.C_alloc ?_ _)|(with_reducible refine Kd.C_drewN ?_ _)|(with_reducible refine Kd.C_drew ?_)));(case side2 => exact HC388_0.out);(case side3 => repeat (first|exact HR389_0.out|(with_reducible refine Kd.C_alloc ?_ _)|(with_reducible refine Kd.C_drewN ?_ _)|(with_reducible refine Kd.C_drew ?_)));(case side4 => exact HC389_0.out);rintro e w' ⟨rfl,⟨nd,rfl⟩⟩;(try first|exact ⟨rfl,_,World.drewN_drewN _ _ _⟩|exact ⟨rfl,_,Eq.trans (World.drewN_drewN _ _ _) (congrArg (World.drewN _) (Nat.add_assoc _ _ _))⟩))))
        go_roundg k1
        case measure => have := HK1.out;omega
        case rel => exact ⟨(wrap64 (x5_1 + 1)),(by first|rfl|(simp;done)|(simp [*];done)),H',⟨by have := HK1.out;omega⟩,by repeat (first|exact Drawn0.refl _|apply Drawn0.step)⟩
       ·replace c8 := Bool.eq_false_iff.mpr c8
        subst c8
        rw [if_neg (show ¬ (false = true) by decide)] at H
        obtain rfl := Option.some.inj H
        have p388 : 0 ≤ (x5_1 : Int) := od
        have q388 : x5_1 < (l0.length : Int) := od
        obtain ⟨ad388,A388_0,c388_0,e388,hx388_0,hl388_0,hi388_0⟩ := at_L2 HR0.out x5_1 p388 q388
        cases e388
        have HR388_0 := am hi388_0
        have HC388_0 := am hl388_0
        clear hi388_0 hl388_0
        replace p388 := eq_true p388
        replace q388 := eq_true q388
        have p389 : 0 ≤ (x5_1 : Int) := od
        have q389 : x5_1 < (l1.length : Int) := od
        obtain ⟨ad389,A389_0,c389_0,e389,hx389_0,hl389_0,hi389_0⟩ := at_L2 HR1.out x5_1 p389 q389
        cases e389
        have HR389_0 := am hi389_0
        have HC389_0 := am hl389_0
        clear hi389_0 hl389_0
        replace p389 := eq_true p389
        replace q389 := eq_true q389
        go_wp2_with (first|(go_at_call 24;(with_reducible refine (privityref05_Same.calls k1 _ _ (rd_L2 l0 x5_1) _ _ (rd_L2 l1 x5_1) false _ ?side1 ?side2 ?side3 ?side4 A7.out).mono ?_);(case side1 => repeat (first|exact HR388_0.out|(with_reducible refine Kd.C_alloc ?_ _)|(with_reducible refine Kd.C_drewN ?_ _)|(with_reducible refine Kd.C_drew ?_)));(case side2 => exact HC388_0.out);(case side3 => repeat (first|exact HR389_0.out|(with_reducible refine Kd.C_alloc ?_ _)|(with_reducible refine Kd.C_drewN ?_ _)|(with_reducible refine Kd.C_drew ?_)));(case side4 => exact HC389_0.out);rintro e w' ⟨rfl,⟨nd,rfl⟩⟩;(try first|exact ⟨rfl,_,World.drewN_drewN _ _ _⟩|exact ⟨rfl,_,Eq.trans (World.drewN_drewN _ _ _) (congrArg (World.drewN _) (Nat.add_assoc _ _ _))⟩)))
        repeat (go_quiet (first|(go_at_call 24;(with_reducible refine (privityref05_Same.calls k1 _ _ (rd_L2 l0 x5_1) _ _ (rd_L2 l1 x5_1) false _ ?side1 ?side2 ?side3 ?side4 A7.out).mono ?_);(case side1 => repeat (first|exact HR388_0.out|(with_reducible refine Kd.C_alloc ?_ _)|(with_reducible refine Kd.C_drewN ?_ _)|(with_reducible refine Kd.C_drew ?_)));(case side2 => exact HC388_0.out);(case side3 => repeat (first|exact HR389_0.out|(with_reducible refine Kd.C_alloc ?_ _)|(with_reducible refine Kd.C_drewN ?_ _)|(with_reducible refine Kd.C_drew ?_)));(case side4 => exact HC389_0.out);rintro e w' ⟨rfl,⟨nd,rfl⟩⟩;(try first|exact ⟨rfl,_,World.drewN_drewN _ _ _⟩|exact ⟨rfl,_,Eq.trans (World.drewN_drewN _ _ _) (congrArg (World.drewN _) (Nat.add_assoc _ _ _))⟩)));try go_wp2_with (first|(go_at_call 24;(with_reducible refine (privityref05_Same.calls k1 _ _ (rd_L2 l0 x5_1) _ _ (rd_L2 l1 x5_1) false _ ?side1 ?side2 ?side3 ?side4 A7.out).mono ?_);(case side1 => repeat (first|exact HR388_0.out|(with_reducible refine Kd.C_alloc ?_ _)|(with_reducible refine Kd.C_drewN ?_ _)|(with_reducible refine Kd.C_drew ?_)));(case side2 => exact HC388_0.out);(case side3 => repeat (first|exact HR389_0.out|(with_reducible refine Kd.C_alloc ?_ _)|(with_reducible refine Kd.C_drewN ?_ _)|(with_reducible refine Kd.C_drew ?_)));(case side4 => exact HC389_0.out);rintro e w' ⟨rfl,⟨nd,rfl⟩⟩;(try first|exact ⟨rfl,_,World.drewN_drewN _ _ _⟩|exact ⟨rfl,_,Eq.trans (World.drewN_drewN _ _ _) (congrArg (World.drewN _) (Nat.add_assoc _ _ _))⟩))))
        go_ret
        exact ⟨by first|rfl|(simp;done)|(simp [*];done),by repeat (first|exact Drawn0.refl _|apply Drawn0.step)⟩
      ·rw [if_neg c6] at H
       exact absurd H (by simp)
     ·rw [if_neg c5] at H
      exact absurd H (by simp)
    ·rw [if_neg c4] at H
     have c4b0 : decide (x5_1 < (l0.length : Int)) = false := decide_eq_false c4
     clear c4
     obtain rfl := Option.some.inj H
     go_wp2
     repeat (go_quiet (fail);try go_wp2)
     go_ret
     exact ⟨by first|rfl|(simp;done)|(simp [*];done),by repeat (first|exact Drawn0.refl _|apply Drawn0.step)⟩
 ·rw [if_neg c3] at H
  have c3b0 : ((l0.length : Int) == (l1.length : Int)) = false := beq_eq_false_iff_ne.mpr c3
  have c3b1 : ((l0.length : Int) != (l1.length : Int)) = true := bne_iff_ne.mpr c3
  have c3b2 : (l0.length == l1.length) = false := by first|simpa using c3|(simp at c3 ⊢;omega)
  obtain rfl := Option.some.inj H
  go_enter Try.func16,Try.ntmps16
  go_wp2
  repeat (go_quiet (fail);try go_wp2)
  go_ret
  exact ⟨by first|rfl|(simp;done)|(simp [*];done),by repeat (first|exact Drawn0.refl _|apply Drawn0.step)⟩
def privityref01_exps.f  : Option (List Int) := some (([5,7,13,17,19,31,61] : List Int))
set_option maxHeartbeats 8000000 in
set_option maxRecDepth 100000 in
theorem privityref01_exps.calls  (r : List Int) (w : World) (h : privityref01_exps.f  = some r) :
  Calls Try.prog 75 #[] w fun e w' => ∃ v0_ : Value,e = .returned (v0_) ∧ Kd.R (Kd.int .i64) 3 w' w.heap.size (fun _ => True) v0_ r ∧ Below w.heap.size w w' := by
 have HB := am (Below.refl w.heap.size w)
 have H : (some (([5,7,13,17,19,31,61] : List Int))) = some r := h
 clear h
 obtain ⟨y454,hy454⟩ : ∃ y_ : List Int,y_ = (([5,7,13,17,19,31,61] : List Int)) := ⟨_,rfl⟩
 replace H : (some y454) = some r := by first|(rw [hy454];with_reducible exact H)|(have H2_ := (Option.bind_some _ _).symm.trans H;rw [hy454];with_reducible exact H2_)|(have H2_ := (Option.bind_some _ _).symm.trans H;with_reducible exact H2_)|with_reducible exact H|(rw [hy454];exact H)|exact H
 have Ny454 := am hy454
 clear hy454
 obtain rfl := Option.some.inj H
 go_enter Try.func75,Try.ntmps75
 go_wp2_with (first|((with_reducible refine gate_dst (N := 1) rfl ?_);refine Kd.R_lit (Kd.int .i64) _ 3 ?hg (N := 1) ?hd (xs := ([5,7,13,17,19,31,61] : List Int)) (inner := [.int .i64 5,.int .i64 7,.int .i64 13,.int .i64 17,.int .i64 19,.int .i64 31,.int .i64 61]) (ok := fun _ => True) (okp := fun _ => True) ?hr ?hp (fun _ hk => hk) trivial (Below.refl _ _) (Nat.le_refl _) (by simp) ?_;(case hd => rfl);(case hg => rfl);(case hr => first|(go_simp;done)|(go_simp;rfl));(case hp => exact (Reps.one (show Kd.M (Kd.int .i64) _ _ _ 5 [.int .i64 5] from rfl) (Reps.one (show Kd.M (Kd.int .i64) _ _ _ 7 [.int .i64 7] from rfl) (Reps.one (show Kd.M (Kd.int .i64) _ _ _ 13 [.int .i64 13] from rfl) (Reps.one (show Kd.M (Kd.int .i64) _ _ _ 17 [.int .i64 17] from rfl) (Reps.one (show Kd.M (Kd.int .i64) _ _ _ 19 [.int .i64 19] from rfl) (Reps.one (show Kd.M (Kd.int .i64) _ _ _ 31 [.int .i64 31] from rfl) (Reps.one (show Kd.M (Kd.int .i64) _ _ _ 61 [.int .i64 61] from rfl) (Reps.none _ _)))))))));intro v455 w1 ho2 hb hg_ hnew_;clear hg_ hnew_;(first|rw [← Ny454.out] at ho2|(simp only [Int.reduceToNat] at ho2;rw [← Ny454.out] at ho2));have n0_ := am (Kd.R_lower ho2 (below_size (bb HB)));have n1_ := am (below_step (bb HB) hb);clear HB;have HO456 := n0_;have HB := n1_;clear n0_ n1_;clear hb ho2))
 go_ret
 exact ⟨_,by first|rfl|(simp [errW_none,errW_some] <;> rfl)|(simp [*,errW_none,errW_some] <;> rfl),by (with_reducible repeat (first|apply Kd.R_alloc|apply Kd.R_drewN|apply Kd.R_drew));exact HO456.out,bb HB⟩
def privityref01_Exponent.l0 : Nat → Int → List Int → Int → Option (Int)
 | 0,_,_,_ => none
 | k + 1,x0,x3,x4 => if x4 < (x3.length : Int) then (if 0 ≤ x4 then (if 0 ≤ (IntKind.u64.wrap (rd x3 x4)) then (if x0 = (IntKind.u64.wrap ((shl .u64 1 (IntKind.u64.wrap (rd x3 x4))) - 1)) then (some (rd x3 x4)) else (privityref01_Exponent.l0 k x0 x3 (wrap64 (x4 + 1)))) else (none)) else (none)) else (some 0)
def privityref01_Exponent.f (k : Nat) (a0 : Int) : Option (Int) := (privityref01_exps.f).bind fun t457 => (privityref01_Exponent.l0 k a0 t457 0)
theorem privityref01_Exponent.mono_l : ∀ k,(∀ y0 y1 y2,LeO (privityref01_Exponent.l0 k y0 y1 y2) (privityref01_Exponent.l0 (k + 1) y0 y1 y2))
 | 0 => fun _ _ _ r h => by simp [privityref01_Exponent.l0] at h
 | k + 1 => by
  have ih0 := privityref01_Exponent.mono_l k
  ·intro y0 y1 y2
   unfold privityref01_Exponent.l0
   repeat' first
   | (with_reducible exact ih0 _ _ _)
   | (with_reducible exact LeO.refl _)
   | (with_reducible exact LeO.none _)
   | (with_reducible refine LeO.ite ?_ ?_)
   | (with_reducible refine LeO.bind ?_ (fun _ => ?_))
   | exact ih0 _ _ _
   | exact LeO.none _
   | refine LeO.ite ?_ ?_
   | refine LeO.bind ?_ (fun _ => ?_)
theorem privityref01_Exponent.mono : ∀ a0 k,LeO (privityref01_Exponent.f k a0) (privityref01_Exponent.f (k + 1) a0) := by
 intro a0 k
 have ih0 := privityref01_Exponent.mono_l k
 unfold privityref01_Exponent.f
 repeat' first
   | (with_reducible exact ih0 _ _ _)
   | (with_reducible exact LeO.refl _)
   | (with_reducible exact LeO.none _)
   | (with_reducible refine LeO.ite ?_ ?_)
   | (with_reducible refine LeO.bind ?_ (fun _ => ?_))
   | exact ih0 _ _ _
   | exact LeO.none _
   | refine LeO.ite ?_ ?_
   | refine LeO.bind ?_ (fun _ => ?_)
set_option maxHeartbeats 8000000 in
set_option maxRecDepth 100000 in
theorem privityref01_Exponent.calls (k : Nat) (a0 : Int) (r : Int) (w : World) (h : privityref01_Exponent.f k a0 = some r) :
  Calls Try.prog 38 #[.int .u64 a0] w fun e w' => e = .returned (.int .i64 r) ∧ Below w.heap.size w w' := by
 have HB := am (Below.refl w.heap.size w)
 have H : ((privityref01_exps.f).bind fun t457 => (privityref01_Exponent.l0 k a0 t457 0)) = some r := h
 clear h
 replace H := Option.bind_eq_some_iff.mp H
 obtain ⟨t457,A20,H⟩ := H
 try dsimp only at H
 have A2 := am A20
 clear A20
 have H' := am H
 clear H
 go_enter Try.func38,Try.ntmps38
 go_wp2_with (first|((with_reducible refine gate_callee (f := 75) rfl ?_);refine goesL_ (some 5) rfl rfl Try.func75 (by kernel_rfl) rfl #[] rfl (by (try simp only [List.map_toArray,List.map_cons,List.map_nil]);first|done|rfl|(simp only [List.length_drop,List.length_take];rfl)) ?_;(with_reducible refine (privityref01_exps.calls  t457 _ A2.out).mono ?_);rintro e w3 ⟨v458,rfl,ho0,hb⟩;refine ⟨_,rfl,?_⟩;have n0_ := am (Kd.R_lower ho0 (below_size (bb HB)));have n1_ := am (below_step (bb HB) hb);clear HB;have HO459 := n0_;have HB := n1_;clear n0_ n1_;(try clear hb);(try clear hb2);(try clear hk);(try clear hi);(try clear ho0)))
 go_loopg [4] k (fun kq v4 w' => ∃ (x4_1 : Int),v4 = .int .i64 x4_1 ∧ Aside0 (privityref01_Exponent.l0 kq a0 t457 x4_1 = some r) ∧ Aside0 (kq ≤ k) ∧ Aside0 (Kd.R (Kd.int .i64) 3 w' w.heap.size (fun _ => True) v458 t457) ∧ Aside0 (Below w.heap.size w w'))
 case atStart => exact ⟨(0),(by first|rfl|(simp;done)|(simp [*];done)),H',⟨Nat.le_refl _⟩,⟨by (with_reducible repeat (first|apply Kd.R_alloc|apply Kd.R_drewN|apply Kd.R_drew));exact HO459.out⟩,⟨bb HB⟩⟩
 case round =>
  clear H'
  try clear p2
  try clear c3
  obtain ⟨x4_1,rfl,HA,HK1,HO_3,HB⟩ := hrel
  cases gk with
  | zero => exact absurd HA.out (by simp [privityref01_Exponent.l0])
  | succ k1 =>
   have H := HA.out
   clear HA
   simp only [privityref01_Exponent.l0] at H
   by_cases c4 : x4_1 < (t457.length : Int)
   ·rw [if_pos c4] at H
    have c4b0 : decide (x4_1 < (t457.length : Int)) = true := decide_eq_true c4
    clear c4
    by_cases c5 : 0 ≤ x4_1
    ·rw [if_pos c5] at H
     have c5b0 : decide (0 ≤ x4_1) = true := decide_eq_true c5
     clear c5
     obtain ⟨ji6,hji6⟩ : ∃ j_ : Int,(IntKind.u64.wrap (rd t457 x4_1)) = j_ := ⟨_,rfl⟩
     first|rw [hji6] at H|simp only [hji6] at H
     by_cases c7 : 0 ≤ (ji6)
     ·rw [if_pos c7] at H
      have c7b0 := eq_true c7
      have c7b1 : decide (0 ≤ (ji6)) = true := decide_eq_true c7
      clear c7
      obtain ⟨ji8,hji8⟩ : ∃ j_ : Int,(shl .u64 1 (ji6)) = j_ := ⟨_,rfl⟩
      first|rw [hji8] at H|simp only [hji8] at H
      have hji8_ : (IntKind.u64.wrap (1 * 2 ^ min (ji6).toNat 64)) = ji8 := hji8
      have hji8z : (ji6) ≤ 64 → (IntKind.u64.wrap (1 * 2 ^ (ji6).toNat)) = ji8 := shl_small hji8
      have hji8u : (IntKind.u64.wrap (2 ^ min (ji6).toNat 64)) = ji8 := by have h_ := hji8_;rw [Int.one_mul] at h_;exact h_
      have hji8v : (ji6) ≤ 64 → (IntKind.u64.wrap (2 ^ (ji6).toNat)) = ji8 := fun hle_ => by have h_ := hji8z hle_;rw [Int.one_mul] at h_;exact h_
      by_cases c9 : a0 = (IntKind.u64.wrap ((ji8) - 1))
      ·rw [if_pos c9] at H
       have c9b0 : (a0 == (IntKind.u64.wrap ((ji8) - 1))) = true := beq_iff_eq.mpr c9
       have c9b1 : (a0 != (IntKind.u64.wrap ((ji8) - 1))) = false := bne_eq_false_iff_eq.mpr c9
       clear c9
       obtain rfl := Option.some.inj H
       obtain ⟨Ao10,co10,eo10⟩ := Kd.R_slice HO_3.out
       subst eo10
       have p460 : 0 ≤ (x4_1 : Int) := od
       have q460 : x4_1 < (t457.length : Int) := od
       obtain ⟨ad460,e460,hx460_0⟩ := Kd.at_int (Kd.R_reads' HO_3.out).2.2 x4_1 p460 q460
       cases e460
       replace p460 := eq_true p460
       replace q460 := eq_true q460
       have p461 : 0 ≤ (x4_1 : Int) := od
       have q461 : x4_1 < (t457.length : Int) := od
       obtain ⟨ad461,e461,hx461_0⟩ := Kd.at_int (Kd.R_reads' HO_3.out).2.2 x4_1 p461 q461
       obtain rfl : ad460 = ad461 := (by injection e461)
       replace p461 := eq_true p461
       replace q461 := eq_true q461
       go_wp2
       go_ret
       exact ⟨by first|rfl|(simp [errW_none,errW_some] <;> rfl)|(simp only [← hji6,← hji8];first|rfl|(simp [errW_none,errW_some] <;> rfl))|(simp [*,errW_none,errW_some] <;> rfl),bb HB⟩
      ·rw [if_neg c9] at H
       have c9b0 : (a0 == (IntKind.u64.wrap ((ji8) - 1))) = false := beq_eq_false_iff_ne.mpr c9
       have c9b1 : (a0 != (IntKind.u64.wrap ((ji8) - 1))) = true := bne_iff_ne.mpr c9
       have H' := am H
       clear H
       obtain ⟨Ao11,co11,eo11⟩ := Kd.R_slice HO_3.out
       subst eo11
       have p460 : 0 ≤ (x4_1 : Int) := od
       have q460 : x4_1 < (t457.length : Int) := od
       obtain ⟨ad460,e460,hx460_0⟩ := Kd.at_int (Kd.R_reads' HO_3.out).2.2 x4_1 p460 q460
       cases e460
       replace p460 := eq_true p460
       replace q460 := eq_true q460
       go_wp2
       go_roundg k1
       case measure => have := HK1.out;omega
       case rel => exact ⟨(wrap64 (x4_1 + 1)),(by first|rfl|(simp;done)|(simp [*];done)),H',⟨by have := HK1.out;omega⟩,⟨by (with_reducible repeat (first|apply Kd.R_alloc|apply Kd.R_drewN|apply Kd.R_drew));exact HO_3.out⟩,⟨bb HB⟩⟩
     ·rw [if_neg c7] at H
      exact absurd H (by simp)
    ·rw [if_neg c5] at H
     exact absurd H (by simp)
   ·rw [if_neg c4] at H
    have c4b0 : decide (x4_1 < (t457.length : Int)) = false := decide_eq_false c4
    clear c4
    obtain rfl := Option.some.inj H
    obtain ⟨Ao12,co12,eo12⟩ := Kd.R_slice HO_3.out
    subst eo12
    go_wp2
    go_ret
    exact ⟨by first|rfl|(simp [errW_none,errW_some] <;> rfl)|(simp [*,errW_none,errW_some] <;> rfl),bb HB⟩
def privityref01_Supported.f (k : Nat) (a0 : Int) : Option (Bool) := (privityref01_Exponent.f k a0).bind fun t462 => (some (decide (t462 > 0)))
theorem privityref01_Supported.mono : ∀ a0 k,LeO (privityref01_Supported.f k a0) (privityref01_Supported.f (k + 1) a0) := by
 intro a0 k
 unfold privityref01_Supported.f
 repeat' first
   | (with_reducible exact privityref01_Exponent.mono _ _)
   | (with_reducible exact LeO.refl _)
   | (with_reducible exact LeO.none _)
   | (with_reducible refine LeO.ite ?_ ?_)
   | (with_reducible refine LeO.bind ?_ (fun _ => ?_))
   | exact privityref01_Exponent.mono _ _
   | exact LeO.none _
   | refine LeO.ite ?_ ?_
   | refine LeO.bind ?_ (fun _ => ?_)
set_option maxHeartbeats 8000000 in
set_option maxRecDepth 100000 in
theorem privityref01_Supported.calls (k : Nat) (a0 : Int) (r : Bool) (w : World) (h : privityref01_Supported.f k a0 = some r) :
  Calls Try.prog 13 #[.int .u64 a0] w fun e w' => e = .returned (.bool r) ∧ Below w.heap.size w w' := by
 have HB := am (Below.refl w.heap.size w)
 have H : ((privityref01_Exponent.f k a0).bind fun t462 => (some (decide (t462 > 0)))) = some r := h
 clear h
 replace H := Option.bind_eq_some_iff.mp H
 obtain ⟨t462,A20,H⟩ := H
 try dsimp only at H
 have A2 := am A20
 clear A20
 obtain rfl := Option.some.inj H
 go_enter Try.func13,Try.ntmps13
 go_wp2_with (first|((with_reducible refine gate_callee (f := 38) rfl ?_);refine goesL_ (some 4) rfl rfl Try.func38 (by kernel_rfl) rfl #[.int .u64 a0] rfl (by (try simp only [List.map_toArray,List.map_cons,List.map_nil]);first|done|rfl|(simp only [List.length_drop,List.length_take];rfl)) ?_;(with_reducible refine (privityref01_Exponent.calls k a0 t462 _ A2.out).mono ?_);rintro e w3 ⟨rfl,hb⟩;refine ⟨_,rfl,?_⟩;have n0_ := am (below_step (bb HB) hb);clear HB;have HB := n0_;clear n0_;(try clear hb);(try clear hb2);(try clear hk);(try clear hi)))
 go_ret
 exact ⟨by first|rfl|(simp [errW_none,errW_some] <;> rfl)|(simp [*,errW_none,errW_some] <;> rfl),bb HB⟩



end Go.Proofs.Ytmdoaijkaaaglaa.Pr
end
section
namespace Go.Proofs.Ytmdoaijkaaaglaa.E
open Go.RowKit Go.Proofs.Ytmdoaijkaaaglaa.Pr Go.Proofs.Ytmdoaijkaaaglaa.Hw Go.Proofs.YtmdoaijkaaaglaaW.PrintWords Go.Proofs.YtmdoaijkaaaglaaW.PrintLast Go.Proofs.YtmdoaijkaaaglaaW.PrintMore
theorem wcap {n : Int} (h : 0 ≤ n) (h2 : n < 9223372036854775808) : wrap64 n = n := by unfold wrap64;omega
theorem wnat {n : Nat} (h : n < 1099511627776) : wrap64 ((n : Int) + 1) = ((n + 1 : Nat) : Int) := by rw [wcap (by omega) (by omega)];omega
theorem up {Q : Nat → Prop} {n : Nat} (hn : Q n) (hs : ∀ i,i < n → Q (i + 1) → Q i) : Q 0 := by
 have : ∀ d,d ≤ n → Q (n - d) := by
  intro d
  induction d with
  | zero => intro _;exact hn
  | succ d ih =>
   intro h
   have h1 := ih (by omega)
   refine hs (n - (d + 1)) (by omega) ?_
   rwa [show n - (d + 1) + 1 = n - d from by omega]
 have := this n (Nat.le_refl _)
 rwa [Nat.sub_self] at this
theorem exponent_eq (p : Int) : privityref01_Exponent.f 10 p = if p = 31 then some 5 else if p = 127 then some 7 else if p = 8191 then some 13 else if p = 131071 then some 17 else if p = 524287 then some 19 else if p = 2147483647 then some 31 else if p = 2305843009213693951 then some 61 else some 0 := by kernel_rfl
theorem supported_ev (p : Int) : Ev (fun k => privityref01_Supported.f k p) (supB p) := by
 refine Ev.of (fun k => privityref01_Supported.mono _ _) (k := 10) ?_
 show (privityref01_Exponent.f 10 p).bind _ = _
 rw [exponent_eq]
 unfold supB
 by_cases h1 : p = 31
 ·subst h1;rfl
 by_cases h2 : p = 127
 ·subst h2;rfl
 by_cases h3 : p = 8191
 ·subst h3;rfl
 by_cases h4 : p = 131071
 ·subst h4;rfl
 by_cases h5 : p = 524287
 ·subst h5;rfl
 by_cases h6 : p = 2147483647
 ·subst h6;rfl
 by_cases h7 : p = 2305843009213693951
 ·subst h7;rfl
 rw [if_neg h1,if_neg h2,if_neg h3,if_neg h4,if_neg h5,if_neg h6,if_neg h7]
 simp [h1,h2,h3,h4,h5,h6,h7]
end Go.Proofs.Ytmdoaijkaaaglaa.E
end
section
namespace Go.Proofs.Ytmdoaijkaaaglaa.Pr
open Go.RowKit Go.Proofs.YtmdoaijkaaaglaaW.PrintWords Go.Proofs.YtmdoaijkaaaglaaW.PrintLast Go.Proofs.YtmdoaijkaaaglaaW.PrintMore
attribute [local go_sem] max2_int min2_int max_two min_two max_three min_three max_four min_four
open Go.Proofs.Ytmdoaijkaaaglaa.Hw
mutual
def hyperinvertible_flat.j0 : Nat → List (List Int) → Bool → Option (Bool)
 | 0,_,_ => none
 | k + 1,x0,x14 => if x14 = true then (some false) else (hyperinvertible_flat.l0 k x0 x0 (x0.length : Int) 0)
def hyperinvertible_flat.l0 : Nat → List (List Int) → List (List Int) → Int → Int → Option (Bool)
 | 0,_,_,_,_ => none
 | k + 1,x0,x15,x16,x17 => if x17 < x16 then (if 0 ≤ x17 then (if x17 < (x15.length : Int) then (if 0 < (x0.length : Int) then (if ((rd_L2 x15 x17).length : Int) = ((rd_L2 x0 0).length : Int) then (hyperinvertible_flat.l0 k x0 x15 x16 (wrap64 (x17 + 1))) else (some false)) else (none)) else (none)) else (none)) else (some true)
end
def hyperinvertible_flat.f (k : Nat) (l0 : List (List Int)) : Option (Bool) := if (l0.length : Int) = 0 then (hyperinvertible_flat.j0 k l0 true) else (if 0 < (l0.length : Int) then (hyperinvertible_flat.j0 k l0 (((rd_L2 l0 0).length : Int) == 0)) else (none))
set_option maxHeartbeats 8000000 in
set_option maxRecDepth 100000 in
theorem hyperinvertible_flat.calls (k : Nat) (A0 : Option Addr) (c0 : Nat) (l0 : List (List Int)) (r : Bool) (w : World) (hr0 : Kd.C (Kd.slice 22 (Kd.int .u64)) w A0 l0.length l0) (hc0 : l0.length ≤ c0) (h : hyperinvertible_flat.f k l0 = some r) :
  Calls Try.prog 40 #[.slice A0 l0.length c0] w fun e w' => e = .returned (.bool r) ∧ Drawn0 w w' := by
 have HR0 := am hr0
 have HC0 := am hc0
 clear hr0 hc0
 have H : (if (l0.length : Int) = 0 then (hyperinvertible_flat.j0 k l0 true) else (if 0 < (l0.length : Int) then (hyperinvertible_flat.j0 k l0 (((rd_L2 l0 0).length : Int) == 0)) else (none))) = some r := h
 clear h
 have HC2 := am H
 clear H
 go_enter Try.func40,Try.ntmps40
 go_upto_region 1 with (fail)
 go_cut [14] (fun v14 wc => ∃ (kq : Nat) (x14_1 : Bool),v14 = .bool x14_1 ∧ Aside0 (hyperinvertible_flat.j0 kq l0 x14_1 = some r) ∧ Aside0 (kq ≤ k) ∧ Drawn0 w wc)
 case first =>
  have H := HC2.out
  clear HC2
  by_cases c3 : (l0.length : Int) = 0
  ·rw [if_pos c3] at H
   have c3b0 : ((l0.length : Int) == 0) = true := beq_iff_eq.mpr c3
   have c3b1 : ((l0.length : Int) != 0) = false := bne_eq_false_iff_eq.mpr c3
   clear c3
   (first|rw [c3b0]|(simp only [i64_w,i32_w];rw [c3b0])|skip)
   have H' := am H
   clear H
   go_wp2
   go_meet
   case rel => exact ⟨_,(true),(by first|rfl|(simp;done)|(simp [*];done)),H',⟨by first|omega|exact Nat.le_refl _⟩,by repeat (first|exact Drawn0.refl _|apply Drawn0.step)⟩
  ·rw [if_neg c3] at H
   have c3b0 : ((l0.length : Int) == 0) = false := beq_eq_false_iff_ne.mpr c3
   have c3b1 : ((l0.length : Int) != 0) = true := bne_iff_ne.mpr c3
   have c3b2 : ¬ (l0 = []) := fun h_ => c3 (by rw [h_];rfl)
   (first|rw [c3b0]|(simp only [i64_w,i32_w];rw [c3b0])|skip)
   by_cases c4 : 0 < (l0.length : Int)
   ·rw [if_pos c4] at H
    have c4b0 : decide (0 < (l0.length : Int)) = true := decide_eq_true c4
    have c4b1 : decide (0 < l0.length) = true := decide_eq_true (by omega)
    clear c4
    have H' := am H
    clear H
    have p402 : 0 ≤ (0 : Int) := (by omega)
    have q402 : 0 < (l0.length : Int) := od
    obtain ⟨ad402,A402_0,c402_0,e402,hx402_0,hl402_0,hi402_0⟩ := at_L2 HR0.out 0 p402 q402
    cases e402
    have qi402 : (0 < l0.length) = True := eq_true (by omega)
    (try rw [show ((0 : Int)).toNat = 0 from rfl] at hx402_0)
    (try rw [Addr.add_zero'] at hx402_0)
    have HR402_0 := am hi402_0
    have HC402_0 := am hl402_0
    clear hi402_0 hl402_0
    replace p402 := eq_true p402
    replace q402 := eq_true q402
    go_wp2
    go_meet
    case rel => exact ⟨_,((((rd_L2 l0 0).length : Int) == 0)),(by first|rfl|(simp;done)|(simp [*];done)),H',⟨by first|omega|exact Nat.le_refl _⟩,by repeat (first|exact Drawn0.refl _|apply Drawn0.step)⟩
   ·rw [if_neg c4] at H
    exact absurd H (by simp)
 case rest =>
  clear HC2
  try clear p2
  try clear c3
  try clear c3b0
  try clear c3b1
  try clear c3b2
  try clear c4
  try clear c4b0
  try clear c4b1
  try clear p4
  try clear q4
  try clear hx4
  try clear qi4
  try clear hx402_0
  try clear p402
  try clear q402
  obtain ⟨kq,x14_1,rfl,HA,HJ1,⟨mc1,rfl⟩⟩ := hcut
  cases kq with
  | zero => exact absurd HA.out (by simp [hyperinvertible_flat.j0])
  | succ kj1 =>
   have H := HA.out
   clear HA
   simp only [hyperinvertible_flat.j0] at H
   by_cases c5 : x14_1 = true
   ·subst c5
    rw [if_pos rfl] at H
    obtain rfl := Option.some.inj H
    go_wp2
    go_ret
    exact ⟨by first|rfl|(simp;done)|(simp [*];done),by repeat (first|exact Drawn0.refl _|apply Drawn0.step)⟩
   ·replace c5 := Bool.eq_false_iff.mpr c5
    subst c5
    rw [if_neg (show ¬ (false = true) by decide)] at H
    have H' := am H
    clear H
    go_wp2
    go_loopg [17] kj1 (fun kq v17 w' => ∃ (x17_2 : Int),v17 = .int .i64 x17_2 ∧ Aside0 (hyperinvertible_flat.l0 kq l0 l0 (l0.length : Int) x17_2 = some r) ∧ Aside0 (kq ≤ kj1) ∧ Drawn0 w w')
    case atStart => exact ⟨(0),(by first|rfl|(simp;done)|(simp [*];done)),H',⟨Nat.le_refl _⟩,by repeat (first|exact Drawn0.refl _|apply Drawn0.step)⟩
    case round =>
     clear H'
     try clear c1
     try clear p2
     try clear c3
     try clear c3b0
     try clear c3b1
     try clear c3b2
     try clear c4
     try clear c4b0
     try clear c4b1
     try clear p4
     try clear q4
     try clear hx4
     try clear qi4
     try clear c5
     try clear hx402_0
     try clear p2
     try clear p4
     try clear p402
     try clear q4
     try clear q402
     obtain ⟨x17_2,rfl,HA,HK2,⟨m2,rfl⟩⟩ := hrel
     cases gk with
     | zero => exact absurd HA.out (by simp [hyperinvertible_flat.l0])
     | succ k2 =>
      have H := HA.out
      clear HA
      simp only [hyperinvertible_flat.l0] at H
      by_cases c6 : x17_2 < (l0.length : Int)
      ·rw [if_pos c6] at H
       have c6b0 : decide (x17_2 < (l0.length : Int)) = true := decide_eq_true c6
       clear c6
       by_cases c7 : 0 ≤ x17_2
       ·rw [if_pos c7] at H
        have c7b0 : decide (0 ≤ x17_2) = true := decide_eq_true c7
        clear c7
        by_cases c8 : x17_2 < (l0.length : Int)
        ·rw [if_pos c8] at H
         have c8b0 : decide (x17_2 < (l0.length : Int)) = true := decide_eq_true c8
         clear c8
         by_cases c9 : 0 < (l0.length : Int)
         ·rw [if_pos c9] at H
          have c9b0 : decide (0 < (l0.length : Int)) = true := decide_eq_true c9
          have c9b1 : decide (0 < l0.length) = true := decide_eq_true (by omega)
          clear c9
          by_cases c10 : ((rd_L2 l0 x17_2).length : Int) = ((rd_L2 l0 0).length : Int)
          ·rw [if_pos c10] at H
           have c10b0 : (((rd_L2 l0 x17_2).length : Int) == ((rd_L2 l0 0).length : Int)) = true := beq_iff_eq.mpr c10
           have c10b1 : (((rd_L2 l0 x17_2).length : Int) != ((rd_L2 l0 0).length : Int)) = false := bne_eq_false_iff_eq.mpr c10
           have c10b2 : ((rd_L2 l0 x17_2).length == (rd_L2 l0 0).length) = true := by first|simpa using c10|(simp at c10 ⊢;omega)
           clear c10
           have H' := am H
           clear H
           have p403 : 0 ≤ (x17_2 : Int) := od
           have q403 : x17_2 < (l0.length : Int) := od
           obtain ⟨ad403,A403_0,c403_0,e403,hx403_0,hl403_0,hi403_0⟩ := at_L2 HR0.out x17_2 p403 q403
           cases e403
           have HR403_0 := am hi403_0
           have HC403_0 := am hl403_0
           clear hi403_0 hl403_0
           replace p403 := eq_true p403
           replace q403 := eq_true q403
           have p404 : 0 ≤ (0 : Int) := (by omega)
           have q404 : 0 < (l0.length : Int) := od
           obtain ⟨ad404,A404_0,c404_0,e404,hx404_0,hl404_0,hi404_0⟩ := at_L2 HR0.out 0 p404 q404
           obtain rfl : ad403 = ad404 := (by injection e404)
           have qi404 : (0 < l0.length) = True := eq_true (by omega)
           (try rw [show ((0 : Int)).toNat = 0 from rfl] at hx404_0)
           (try rw [Addr.add_zero'] at hx404_0)
           have HR404_0 := am hi404_0
           have HC404_0 := am hl404_0
           clear hi404_0 hl404_0
           replace p404 := eq_true p404
           replace q404 := eq_true q404
           go_wp2
           go_roundg k2
           case measure => have := HJ1.out;have := HK2.out;omega
           case rel => exact ⟨(wrap64 (x17_2 + 1)),(by first|rfl|(simp;done)|(simp [*];done)),H',⟨by have := HJ1.out;have := HK2.out;omega⟩,by repeat (first|exact Drawn0.refl _|apply Drawn0.step)⟩
          ·rw [if_neg c10] at H
           have c10b0 : (((rd_L2 l0 x17_2).length : Int) == ((rd_L2 l0 0).length : Int)) = false := beq_eq_false_iff_ne.mpr c10
           have c10b1 : (((rd_L2 l0 x17_2).length : Int) != ((rd_L2 l0 0).length : Int)) = true := bne_iff_ne.mpr c10
           have c10b2 : ((rd_L2 l0 x17_2).length == (rd_L2 l0 0).length) = false := by first|simpa using c10|(simp at c10 ⊢;omega)
           obtain rfl := Option.some.inj H
           have p403 : 0 ≤ (x17_2 : Int) := od
           have q403 : x17_2 < (l0.length : Int) := od
           obtain ⟨ad403,A403_0,c403_0,e403,hx403_0,hl403_0,hi403_0⟩ := at_L2 HR0.out x17_2 p403 q403
           cases e403
           have HR403_0 := am hi403_0
           have HC403_0 := am hl403_0
           clear hi403_0 hl403_0
           replace p403 := eq_true p403
           replace q403 := eq_true q403
           have p404 : 0 ≤ (0 : Int) := (by omega)
           have q404 : 0 < (l0.length : Int) := od
           obtain ⟨ad404,A404_0,c404_0,e404,hx404_0,hl404_0,hi404_0⟩ := at_L2 HR0.out 0 p404 q404
           obtain rfl : ad403 = ad404 := (by injection e404)
           have qi404 : (0 < l0.length) = True := eq_true (by omega)
           (try rw [show ((0 : Int)).toNat = 0 from rfl] at hx404_0)
           (try rw [Addr.add_zero'] at hx404_0)
           have HR404_0 := am hi404_0
           have HC404_0 := am hl404_0
           clear hi404_0 hl404_0
           replace p404 := eq_true p404
           replace q404 := eq_true q404
           go_wp2
           go_ret
           exact ⟨by first|rfl|(simp;done)|(simp [*];done),by repeat (first|exact Drawn0.refl _|apply Drawn0.step)⟩
         ·rw [if_neg c9] at H
          exact absurd H (by simp)
        ·rw [if_neg c8] at H
         exact absurd H (by simp)
       ·rw [if_neg c7] at H
        exact absurd H (by simp)
      ·rw [if_neg c6] at H
       have c6b0 : decide (x17_2 < (l0.length : Int)) = false := decide_eq_false c6
       clear c6
       obtain rfl := Option.some.inj H
       go_wp2
       go_ret
       exact ⟨by first|rfl|(simp;done)|(simp [*];done),by repeat (first|exact Drawn0.refl _|apply Drawn0.step)⟩
def hyperinvertible_row.l0 : Nat → Int → List Int → Int → List Int → Int → Int → Option (Int)
 | 0,_,_,_,_,_,_ => none
 | k + 1,x0,x2,x7,x10,x11,x12 => if x12 < x11 then (if 0 ≤ x12 then (if x12 < (x10.length : Int) then (if x12 < (x2.length : Int) then ((field_Mul.f k x0 (rd x10 x12) (rd x2 x12)).bind fun t410 => ((field_Add.f k x0 x7 t410).bind fun t411 => (hyperinvertible_row.l0 k x0 x2 t411 x10 x11 (wrap64 (x12 + 1))))) else (none)) else (none)) else (none)) else (some x7)
def hyperinvertible_row.f (k : Nat) (a0 : Int) (l1 : List Int) (l2 : List Int) : Option (Int) := hyperinvertible_row.l0 k a0 l2 0 l1 (l1.length : Int) 0
set_option maxHeartbeats 8000000 in
set_option maxRecDepth 100000 in
theorem hyperinvertible_row.calls (k : Nat) (a0 : Int) (A1 : Option Addr) (c1 : Nat) (l1 : List Int) (A2 : Option Addr) (c2 : Nat) (l2 : List Int) (r : Int) (w : World) (hr1 : Kd.C (Kd.int .u64) w A1 l1.length l1) (hc1 : l1.length ≤ c1) (hr2 : Kd.C (Kd.int .u64) w A2 l2.length l2) (hc2 : l2.length ≤ c2) (h : hyperinvertible_row.f k a0 l1 l2 = some r) :
  Calls Try.prog 45 #[.int .u64 a0,.slice A1 l1.length c1,.slice A2 l2.length c2] w fun e w' => e = .returned (.int .u64 r) ∧ Drawn0 w w' := by
 have HR1 := am hr1
 have HC1 := am hc1
 clear hr1 hc1
 have HR2 := am hr2
 have HC2 := am hc2
 clear hr2 hc2
 have H : (hyperinvertible_row.l0 k a0 l2 0 l1 (l1.length : Int) 0) = some r := h
 clear h
 have H' := am H
 clear H
 go_enter Try.func45,Try.ntmps45
 go_wp2
 go_loopg [7,12] k (fun kq v7 v12 w' => ∃ (x7_1 : Int) (x12_1 : Int),v7 = .int .u64 x7_1 ∧ v12 = .int .i64 x12_1 ∧ Aside0 (hyperinvertible_row.l0 kq a0 l2 x7_1 l1 (l1.length : Int) x12_1 = some r) ∧ Aside0 (kq ≤ k) ∧ Drawn0 w w')
 case atStart => exact ⟨(0),(0),(by first|rfl|(simp;done)|(simp [*];done)),(by first|rfl|(simp;done)|(simp [*];done)),H',⟨Nat.le_refl _⟩,by repeat (first|exact Drawn0.refl _|apply Drawn0.step)⟩
 case round =>
  clear H'
  try clear c1
  try clear c2
  try clear p2
  obtain ⟨x7_1,x12_1,rfl,rfl,HA,HK1,⟨m1,rfl⟩⟩ := hrel
  cases gk with
  | zero => exact absurd HA.out (by simp [hyperinvertible_row.l0])
  | succ k1 =>
   have H := HA.out
   clear HA
   simp only [hyperinvertible_row.l0] at H
   by_cases c4 : x12_1 < (l1.length : Int)
   ·rw [if_pos c4] at H
    have c4b0 : decide (x12_1 < (l1.length : Int)) = true := decide_eq_true c4
    clear c4
    by_cases c5 : 0 ≤ x12_1
    ·rw [if_pos c5] at H
     have c5b0 : decide (0 ≤ x12_1) = true := decide_eq_true c5
     clear c5
     by_cases c6 : x12_1 < (l1.length : Int)
     ·rw [if_pos c6] at H
      have c6b0 : decide (x12_1 < (l1.length : Int)) = true := decide_eq_true c6
      clear c6
      by_cases c7 : x12_1 < (l2.length : Int)
      ·rw [if_pos c7] at H
       have c7b0 : decide (x12_1 < (l2.length : Int)) = true := decide_eq_true c7
       clear c7
       replace H := Option.bind_eq_some_iff.mp H
       obtain ⟨t410,A80,H⟩ := H
       try dsimp only at H
       have A8 := am A80
       clear A80
       replace H := Option.bind_eq_some_iff.mp H
       obtain ⟨t411,A90,H⟩ := H
       try dsimp only at H
       have A9 := am A90
       clear A90
       have H' := am H
       clear H
       have p408 : 0 ≤ (x12_1 : Int) := od
       have q408 : x12_1 < (l1.length : Int) := od
       obtain ⟨ad408,e408,hx408_0⟩ := Kd.at_int HR1.out x12_1 p408 q408
       cases e408
       replace p408 := eq_true p408
       replace q408 := eq_true q408
       have p409 : 0 ≤ (x12_1 : Int) := od
       have q409 : x12_1 < (l2.length : Int) := od
       obtain ⟨ad409,e409,hx409_0⟩ := Kd.at_int HR2.out x12_1 p409 q409
       cases e409
       replace p409 := eq_true p409
       replace q409 := eq_true q409
       go_wp2_with (first|((with_reducible refine gate_callee (f := 27) rfl ?_);refine goesL_ (some 25) rfl rfl Try.func27 (by kernel_rfl) rfl #[.int .u64 a0,.int .u64 (rd l1 x12_1),.int .u64 (rd l2 x12_1)] rfl (by (try simp only [List.map_toArray,List.map_cons,List.map_nil]);first|done|rfl|(simp only [List.length_drop,List.length_take];rfl)) ?_;(with_reducible refine (field_Mul.calls k1 a0 (rd l1 x12_1) (rd l2 x12_1) t410 _ A8.out).mono ?_);rintro e w' ⟨rfl,⟨nd,rfl⟩⟩;refine ⟨_,rfl,?_⟩)|((with_reducible refine gate_callee (f := 26) rfl ?_);refine goesL_ (some 26) rfl rfl Try.func26 (by kernel_rfl) rfl #[.int .u64 a0,.int .u64 x7_1,.int .u64 t410] rfl (by (try simp only [List.map_toArray,List.map_cons,List.map_nil]);first|done|rfl|(simp only [List.length_drop,List.length_take];rfl)) ?_;(with_reducible refine (field_Add.calls k1 a0 x7_1 t410 t411 _ A9.out).mono ?_);rintro e w' ⟨rfl,⟨nd,rfl⟩⟩;refine ⟨_,rfl,?_⟩))
       go_roundg k1
       case measure => have := HK1.out;omega
       case rel => exact ⟨(t411),(wrap64 (x12_1 + 1)),(by first|rfl|(simp;done)|(simp [*];done)),(by first|rfl|(simp;done)|(simp [*];done)),H',⟨by have := HK1.out;omega⟩,by repeat (first|exact Drawn0.refl _|apply Drawn0.step)⟩
      ·rw [if_neg c7] at H
       exact absurd H (by simp)
     ·rw [if_neg c6] at H
      exact absurd H (by simp)
    ·rw [if_neg c5] at H
     exact absurd H (by simp)
   ·rw [if_neg c4] at H
    have c4b0 : decide (x12_1 < (l1.length : Int)) = false := decide_eq_false c4
    clear c4
    obtain rfl := Option.some.inj H
    go_wp2
    go_ret
    exact ⟨by first|rfl|(simp;done)|(simp [*];done),by repeat (first|exact Drawn0.refl _|apply Drawn0.step)⟩



end Go.Proofs.Ytmdoaijkaaaglaa.Pr
end
section
namespace Go.Proofs.Ytmdoaijkaaaglaa.E
open Go.RowKit Go.Proofs.Ytmdoaijkaaaglaa.Pr Go.Proofs.Ytmdoaijkaaaglaa.Hw Go.Proofs.YtmdoaijkaaaglaaW.PrintWords Go.Proofs.YtmdoaijkaaaglaaW.PrintLast Go.Proofs.YtmdoaijkaaaglaaW.PrintMore
theorem rdM_nat (l : List (List Int)) (i : Nat) : rd_L2 l (i : Int) = l.getD i [] := by unfold rd_L2;rw [Int.toNat_natCast]
theorem allL {F : Nat → Int → Option Bool} {n : Nat} {Q : Nat → Prop} [DecidablePred Q] {e : Bool} (hend : Ev (fun k => F k (n : Int)) e) (hyes : ∀ i,i < n → Q i → ∀ r,Ev (fun k => F k ((i + 1 : Nat) : Int)) r → Ev (fun k => F k (i : Int)) r)
  (hno : ∀ i,i < n → ¬ Q i → Ev (fun k => F k (i : Int)) false) (r : Bool) (hr : r = true ↔ ((∀ i,i < n → Q i) ∧ e = true)) : Ev (fun k => F k ((0 : Nat) : Int)) r := by
 by_cases hall : ∀ i,i < n → Q i
 ·have : r = e := by
   cases e with
   | true => exact hr.2 ⟨hall,rfl⟩
   | false => exact Bool.eq_false_iff.mpr fun h => by have := (hr.1 h).2;cases this
  rw [this]
  exact up (Q := fun i => Ev (fun k => F k (i : Int)) e) (n := n) hend fun i hi h => hyes i hi (hall i hi) e h
 ·have hf : r = false := Bool.eq_false_iff.mpr fun h => hall (hr.1 h).1
  rw [hf]
  obtain ⟨i,hi,hq⟩ : ∃ i,i < n ∧ ¬ Q i := Classical.byContradiction fun h => hall fun i hi => Classical.byContradiction fun hq => h ⟨i,hi,hq⟩
  refine up (Q := fun i => Ev (fun k => F k (i : Int)) false) (n := i) (hno i hi hq) fun j hj h => ?_
  by_cases hqj : Q j
  ·exact hyes j (by omega) hqj false h
  ·exact hno j (by omega) hqj
theorem res_at {p : Int} {l : List Int} (h : ∀ x ∈ l,Res p x) {i : Nat} (hi : i < l.length) : Res p (l.getD i 0) := by
 rw [List.getD_eq_getElem?_getD,List.getElem?_eq_getElem hi];exact h _ (List.getElem_mem hi)
def dotP (p : Int) (r l : List Int) : Nat → Int
 | 0 => 0
 | n + 1 => (dotP p r l n + r.getD n 0 * l.getD n 0 % p) % p
theorem dotP_res {p : Int} (hp : Supp p) (r l : List Int) : ∀ n,Res p (dotP p r l n)
 | 0 => by have := hp.bd;exact ⟨Int.le_refl _,by show (0 : Int) < p;omega⟩
 | n + 1 => Res.mod hp _
theorem row_ev {p : Int} (hp : Supp p) {r l : List Int} (hr : ∀ x ∈ r,Res p x) (hl : ∀ x ∈ l,Res p x) (h : r.length ≤ l.length) (hn : r.length ≤ 1000000) : Ev (fun k => hyperinvertible_row.f k p r l) (dotP p r l r.length) := by
 refine (up (Q := fun i => Ev (fun k => hyperinvertible_row.l0 k p l (dotP p r l i) r (r.length : Int) (i : Int)) (dotP p r l r.length)) (n := r.length) ?_ (fun i hi h2 => ?_)).congr fun k => rfl
 ·refine Ev.step (fun k => ?_) (Ev.now _)
  simp only [hyperinvertible_row.l0]
  rw [if_neg (by omega)]
 ·refine Ev.step (f := fun k => (field_Mul.f k p (r.getD i 0) (l.getD i 0)).bind fun t => (field_Add.f k p (dotP p r l i) t).bind fun u => hyperinvertible_row.l0 k p l u r (r.length : Int) ((i + 1 : Nat) : Int)) (fun k => ?_) ?_
  ·simp only [hyperinvertible_row.l0]
   rw [if_pos (by omega),if_pos (by omega),if_pos (by omega),if_pos (by omega),rd_nat,rd_nat,wnat (by omega)]
  ·exact Ev.bind (mul_ev hp (res_at hr hi) (res_at hl (by omega))) (Ev.bind (add_ev hp (dotP_res hp _ _ _) (Res.mod hp _)) h2)
def flatB (m : List (List Int)) : Bool := decide (0 < m.length) && (decide (0 < (m.getD 0 []).length) && m.all fun r => decide (r.length = (m.getD 0 []).length))
theorem flat_ev (m : List (List Int)) (hm : m.length ≤ 1000000) : Ev (fun k => hyperinvertible_flat.f k m) (flatB m) := by
 by_cases h0 : m.length = 0
 ·have e : flatB m = false := by unfold flatB;rw [decide_eq_false (by omega)];rfl
  rw [e]
  refine Ev.congr (f := fun k => hyperinvertible_flat.j0 k m true) (fun k => ?_) (Ev.step (fun k => ?_) (Ev.now false))
  ·unfold hyperinvertible_flat.f;rw [if_pos (by omega)]
  ·simp only [hyperinvertible_flat.j0];rw [if_pos trivial]
 ·have hr0 : rd_L2 m 0 = m.getD 0 [] := rdM_nat m 0
  have hf : ∀ k,hyperinvertible_flat.f k m = hyperinvertible_flat.j0 k m (((m.getD 0 []).length : Int) == 0) := fun k => by
   unfold hyperinvertible_flat.f
   rw [if_neg (by omega),if_pos (by omega),hr0]
  by_cases h1 : (m.getD 0 []).length = 0
  ·have e : flatB m = false := by unfold flatB;rw [decide_eq_false (show ¬ 0 < (m.getD 0 []).length by omega)];simp
   rw [e]
   refine Ev.congr (f := fun k => hyperinvertible_flat.j0 k m true) (fun k => ?_) (Ev.step (fun k => ?_) (Ev.now false))
   ·rw [hf,h1];rfl
   ·simp only [hyperinvertible_flat.j0];rw [if_pos trivial]
  ·have hb : (((m.getD 0 []).length : Int) == 0) = false := by
    have : ¬ ((m.getD 0 []).length : Int) = 0 := by omega
    simpa using this
   refine Ev.congr (f := fun k => hyperinvertible_flat.j0 k m false) (fun k => by rw [hf,hb]) ?_
   refine Ev.step (f := fun k => hyperinvertible_flat.l0 k m m (m.length : Int) ((0 : Nat) : Int)) (fun k => by simp only [hyperinvertible_flat.j0];rw [if_neg (by simp)];rfl) ?_
   have hst : ∀ i,i < m.length → ∀ k,hyperinvertible_flat.l0 (k + 1) m m (m.length : Int) (i : Int) = if ((m.getD i []).length : Int) = ((m.getD 0 []).length : Int) then hyperinvertible_flat.l0 k m m (m.length : Int) ((i + 1 : Nat) : Int) else some false := fun i hi k => by
    simp only [hyperinvertible_flat.l0]
    rw [if_pos (by omega),if_pos (by omega),if_pos (by omega),if_pos (by omega),rdM_nat,hr0,wnat (by omega)]
   refine allL (F := fun k i => hyperinvertible_flat.l0 k m m (m.length : Int) i) (n := m.length) (Q := fun i => (m.getD i []).length = (m.getD 0 []).length) (e := true) ?_ (fun i hi hq r h => ?_) (fun i hi hq => ?_) (flatB m) ?_
   ·refine Ev.step (fun k => ?_) (Ev.now _)
    simp only [hyperinvertible_flat.l0]
    rw [if_neg (by omega)]
   ·exact Ev.step (hst i hi) (h.congr fun k => if_pos (by rw [hq]))
   ·exact Ev.step (hst i hi) ((Ev.now false).congr fun k => if_neg (by omega))
   ·unfold flatB
    rw [decide_eq_true (show 0 < m.length by omega),decide_eq_true (show 0 < (m.getD 0 []).length by omega),Bool.true_and,Bool.true_and,List.all_eq_true]
    refine ⟨fun h => ⟨fun i hi => ?_,rfl⟩,fun h x hx => ?_⟩
    ·have := h (m.getD i []) (by rw [List.getD_eq_getElem?_getD,List.getElem?_eq_getElem hi];exact List.getElem_mem hi)
     exact of_decide_eq_true this
    ·obtain ⟨i,hi,rfl⟩ := List.getElem_of_mem hx
     have := h.1 i hi
     rw [show m.getD i [] = m[i] from by rw [List.getD_eq_getElem?_getD,List.getElem?_eq_getElem hi];rfl] at this
     exact decide_eq_true this
def subOk (m : List (List Int)) (rows cols : List Int) : Bool := rows.all fun i => decide (0 ≤ i) && (decide (i < (m.length : Int)) && cols.all fun c => decide (0 ≤ c) && decide (c < ((rd_L2 m i).length : Int)))
def subM (m : List (List Int)) (rows cols : List Int) : List (List Int) := rows.map fun i => cols.map fun c => rd (rd_L2 m i) c
def subR (m : List (List Int)) (rows cols : List Int) : List (List Int) × Int := if subOk m rows cols = true then (subM m rows cols,0) else ([],1)
def goodI (m : List (List Int)) (cols : List Int) (i : Int) : Prop := 0 ≤ i ∧ i < (m.length : Int) ∧ ∀ c ∈ cols,0 ≤ c ∧ c < ((rd_L2 m i).length : Int)
theorem subOk_iff {m : List (List Int)} {rows cols : List Int} : subOk m rows cols = true ↔ ∀ i ∈ rows,goodI m cols i := by
 unfold subOk goodI
 simp only [List.all_eq_true,Bool.and_eq_true,decide_eq_true_eq]
theorem rd_mem {l : List Int} {i : Nat} (h : i < l.length) : rd l (i : Int) ∈ l := by
 rw [rd_nat,List.getD_eq_getElem?_getD,List.getElem?_eq_getElem h];exact List.getElem_mem h
theorem subM_next (m : List (List Int)) (rows cols : List Int) (i : Nat) (h : i < rows.length) : subM m (rows.take i) cols ++ [cols.map fun c => rd (rd_L2 m (rd rows (i : Int))) c] = subM m (rows.take (i + 1)) cols := by
 unfold subM
 rw [List.take_succ_eq_append_getElem h,List.map_append,rd_nat,List.getD_eq_getElem?_getD,List.getElem?_eq_getElem h];rfl
theorem map_next (f : Int → Int) (l : List Int) (i : Nat) (h : i < l.length) : (l.take i).map f ++ [f (rd l (i : Int))] = (l.take (i + 1)).map f := by
 rw [List.take_succ_eq_append_getElem h,List.map_append,rd_nat,List.getD_eq_getElem?_getD,List.getElem?_eq_getElem h];rfl
theorem subm_ev (m : List (List Int)) (rows cols : List Int) (hr : rows.length ≤ 1000000) (hc : cols.length ≤ 1000000) : Ev (fun k => hyperinvertible_Submatrix.f k m rows cols) (subR m rows cols) := by
 have bad : ∀ i,i < rows.length → ¬ goodI m cols (rd rows (i : Int)) → subR m rows cols = ([],1) := fun i hi h => by
  unfold subR;rw [if_neg fun h2 => h (subOk_iff.1 h2 _ (rd_mem hi))]
 have main := up (Q := fun i => (∀ q,q < i → goodI m cols (rd rows (q : Int))) → Ev (fun k => hyperinvertible_Submatrix.l0 k m cols (subM m (rows.take i) cols) rows (rows.length : Int) (i : Int)) (subR m rows cols)) (n := rows.length) ?_ (fun i hi h2 => ?_) (fun q hq => by omega)
 ·exact main.congr fun k => rfl
 ·intro hall
  refine Ev.step (fun k => ?_) (Ev.now _)
  simp only [hyperinvertible_Submatrix.l0]
  rw [if_neg (by omega),List.take_length]
  unfold subR
  rw [if_pos (subOk_iff.2 fun x hx => ?_)]
  obtain ⟨j,hj,rfl⟩ := List.getElem_of_mem hx
  have := hall j hj
  rwa [show rd rows (j : Int) = rows[j] from by rw [rd_nat,List.getD_eq_getElem?_getD,List.getElem?_eq_getElem hj];rfl] at this
 ·intro hall
  have hsl : (subM m (rows.take i) cols).length ≤ rows.length := by unfold subM;rw [List.length_map,List.length_take];omega
  obtain ⟨x,hx⟩ : ∃ x,x = rd rows (i : Int) := ⟨_,rfl⟩
  have hj1 : ∀ b,(b = true → Ev (fun k => some (([] : List (List Int)),(1 : Int))) (subR m rows cols)) → (b = false → Ev (fun k => hyperinvertible_Submatrix.l1 k m cols (subM m (rows.take i) cols) x ([] : List Int) rows (rows.length : Int) (i : Int) cols (cols.length : Int) ((0 : Nat) : Int)) (subR m rows cols)) → Ev (fun k => hyperinvertible_Submatrix.j1 k m cols (subM m (rows.take i) cols) x rows (rows.length : Int) (i : Int) b) (subR m rows cols) := by
   intro b h1 h0
   cases b with
   | true => exact Ev.step (f := fun k => some (([] : List (List Int)),(1 : Int))) (fun k => by simp only [hyperinvertible_Submatrix.j1];rw [if_pos trivial]) (h1 rfl)
   | false => exact Ev.step (f := fun k => hyperinvertible_Submatrix.l1 k m cols (subM m (rows.take i) cols) x ([] : List Int) rows (rows.length : Int) (i : Int) cols (cols.length : Int) ((0 : Nat) : Int)) (fun k => by simp only [hyperinvertible_Submatrix.j1];rw [if_neg (by simp)];rfl) (h0 rfl)
  have hfull : (0 ≤ x ∧ x < (m.length : Int)) → Ev (fun k => hyperinvertible_Submatrix.l1 k m cols (subM m (rows.take i) cols) x ([] : List Int) rows (rows.length : Int) (i : Int) cols (cols.length : Int) ((0 : Nat) : Int)) (subR m rows cols) := by
   intro hxr
   refine up (Q := fun j => (∀ q,q < j → 0 ≤ rd cols (q : Int) ∧ rd cols (q : Int) < ((rd_L2 m x).length : Int)) → Ev (fun k => hyperinvertible_Submatrix.l1 k m cols (subM m (rows.take i) cols) x ((cols.take j).map fun c => rd (rd_L2 m x) c) rows (rows.length : Int) (i : Int) cols (cols.length : Int) (j : Int)) (subR m rows cols)) (n := cols.length) ?_ (fun j hj h3 => ?_) (fun q hq => by omega)
   ·intro hgood
    have hg : goodI m cols x := ⟨hxr.1,hxr.2,fun c hc => by
     obtain ⟨j,hj,rfl⟩ := List.getElem_of_mem hc
     have := hgood j hj
     rwa [show rd cols (j : Int) = cols[j] from by rw [rd_nat,List.getD_eq_getElem?_getD,List.getElem?_eq_getElem hj];rfl] at this⟩
    refine Ev.step (f := fun k => hyperinvertible_Submatrix.l0 k m cols (subM m (rows.take (i + 1)) cols) rows (rows.length : Int) ((i + 1 : Nat) : Int)) (fun k => ?_) (h2 fun q hq => ?_)
    ·simp only [hyperinvertible_Submatrix.l1]
     rw [if_neg (by omega),List.take_length,wnat (by omega),← subM_next m rows cols i hi,← hx,if_pos (by omega)]
    ·by_cases e : q = i
     ·subst e;rw [← hx];exact hg
     ·exact hall q (by omega)
   ·intro hgood
    by_cases hcj : 0 ≤ rd cols (j : Int) ∧ rd cols (j : Int) < ((rd_L2 m x).length : Int)
    ·have hn := h3 fun q hq => by
      by_cases e : q = j
      ·subst e;exact hcj
      ·exact hgood q (by omega)
     refine Ev.step (f := fun k => hyperinvertible_Submatrix.l1 k m cols (subM m (rows.take i) cols) x ((cols.take (j + 1)).map fun c => rd (rd_L2 m x) c) rows (rows.length : Int) (i : Int) cols (cols.length : Int) ((j + 1 : Nat) : Int)) (fun k => ?_) hn
     simp only [hyperinvertible_Submatrix.l1]
     rw [if_pos (by omega),if_pos (by omega),if_pos (by omega),if_neg (by omega),if_pos hxr.1,if_pos hxr.2,if_neg (by omega),if_pos hcj.1,if_pos hcj.2,if_pos (by rw [List.length_map,List.length_take];omega),wnat (by omega),← map_next (fun c => rd (rd_L2 m x) c) cols j hj]
    ·rw [bad i hi fun hg => hcj (by rw [← hx] at hg;exact hg.2.2 _ (rd_mem hj))]
     refine Ev.step (fun k => ?_) (Ev.now _)
     simp only [hyperinvertible_Submatrix.l1]
     rw [if_pos (by omega),if_pos (by omega),if_pos (by omega)]
     by_cases hneg : rd cols (j : Int) < 0
     ·rw [if_pos hneg]
     ·rw [if_neg hneg,if_pos hxr.1,if_pos hxr.2,if_pos (by omega)]
  by_cases hneg : x < 0
  ·refine Ev.step (f := fun k => hyperinvertible_Submatrix.j1 k m cols (subM m (rows.take i) cols) x rows (rows.length : Int) (i : Int) true) (fun k => ?_) (hj1 true (fun _ => ?_) (fun h => by cases h))
   ·simp only [hyperinvertible_Submatrix.l0]
    rw [if_pos (by omega),if_pos (by omega),if_pos (by omega),← hx,if_pos hneg]
   ·rw [bad i hi fun hg => by rw [← hx] at hg;have := hg.1;omega]
    exact Ev.now _
  ·refine Ev.step (f := fun k => hyperinvertible_Submatrix.j1 k m cols (subM m (rows.take i) cols) x rows (rows.length : Int) (i : Int) (decide (x ≥ (m.length : Int)))) (fun k => ?_) (hj1 _ (fun h => ?_) (fun h => ?_))
   ·simp only [hyperinvertible_Submatrix.l0]
    rw [if_pos (by omega),if_pos (by omega),if_pos (by omega),← hx,if_neg hneg]
   ·have := of_decide_eq_true h
    rw [bad i hi fun hg => by rw [← hx] at hg;have := hg.2.1;omega]
    exact Ev.now _
   ·have := of_decide_eq_false h
    exact hfull ⟨by omega,by omega⟩
end Go.Proofs.Ytmdoaijkaaaglaa.E
end
section
namespace Go.Proofs.Ytmdoaijkaaaglaa.Hw
open Go.RowKit Go.MapKept Go.Proofs.YtmdoaijkaaaglaaW.PrintWords
def ents7 (L : List (Int × Int)) : Array MapEntry := (L.mapIdx fun i n => (⟨.int .i64 n.1,.int .u64 n.2,i⟩ : MapEntry)).toArray
def keys7 (L : List (Int × Int)) : List Int := L.map Prod.fst
def val7 (L : List (Int × Int)) (x : Int) : Int := ((L.find? fun e => e.1 == x).map Prod.snd).getD 0
def MpAt (w : World) (b : Nat) (L : List (Int × Int)) : Prop := w.heap[b]? = some (.map (ents7 L) L.length)
theorem ents7_push (L : List (Int × Int)) (x y : Int) : (ents7 L).push ⟨.int .i64 x,.int .u64 y,L.length⟩ = ents7 (L ++ [(x,y)]) := by
 unfold ents7;rw [List.mapIdx_append];simp
theorem ents7_key (L : List (Int × Int)) : ∀ e ∈ (ents7 L).toList,IsKey (.int .i64) e.key := by
 intro e he
 unfold ents7 at he
 simp only [List.mem_mapIdx] at he
 obtain ⟨i,h,rfl⟩ := he
 simp [IsKey]
theorem ents7_has (L : List (Int × Int)) (e : MapEntry) (h : e ∈ (ents7 L).toList) : ∃ p,p ∈ L ∧ e.key = .int .i64 p.1 ∧ e.val = .int .u64 p.2 := by
 unfold ents7 at h
 simp only [List.mem_mapIdx] at h
 obtain ⟨i,h,rfl⟩ := h
 exact ⟨L[i],List.getElem_mem h,rfl,rfl⟩
theorem ents7_mem (L : List (Int × Int)) (p : Int × Int) (h : p ∈ L) : ∃ e ∈ (ents7 L).toList,e.key = .int .i64 p.1 := by
 obtain ⟨i,hi,rfl⟩ := List.getElem_of_mem h
 unfold ents7
 simp only [List.mem_mapIdx]
 exact ⟨_,⟨i,hi,rfl⟩,rfl⟩
theorem val7_out {L : List (Int × Int)} {x : Int} (h : x ∉ keys7 L) : val7 L x = 0 := by
 unfold val7
 rw [List.find?_eq_none.2 fun e he => by simp only [beq_iff_eq];exact fun hx => h (List.mem_map.2 ⟨e,he,hx⟩)]
 rfl
theorem val7_in : ∀ {L : List (Int × Int)},(keys7 L).Nodup → ∀ {p : Int × Int},p ∈ L → val7 L p.1 = p.2
 | [],_,p,h => by cases h
 | q :: L,hn,p,h => by
  have hn' := List.nodup_cons.1 hn
  unfold val7
  rw [List.find?_cons]
  by_cases e : q.1 = p.1
  ·rw [show (q.1 == p.1) = true from by simpa using e]
   rcases List.mem_cons.1 h with rfl|h
   ·rfl
   ·exact absurd (List.mem_map.2 ⟨p,h,e.symm⟩) hn'.1
  ·rw [show (q.1 == p.1) = false from by simpa using e]
   rcases List.mem_cons.1 h with rfl|h
   ·exact absurd rfl e
   ·exact val7_in hn'.2 h
theorem mp_look {P : Program} {t kt et : TypeId} (hm : P.underlying t = some (.map kt et)) (hk : P.underlying kt = some (.int .i64)) {w : World} (hz : (zeroValue et).run P w = .ok (.int .u64 0) w) {b : Nat} {L : List (Int × Int)} (h : MpAt w b L) (hn : (keys7 L).Nodup) (x : Int) :
  (Instr.lookup t (.map (some b)) (.int .i64 x) false).run P w = .ok (.int .u64 (val7 L x)) w ∧ (Instr.lookup t (.map (some b)) (.int .i64 x) true).run P w = .ok (.tuple #[.int .u64 (val7 L x),.bool (decide (x ∈ keys7 L))]) w := by
 have hik : IsKey (.int .i64) (.int .i64 x) := by simp [IsKey]
 rcases findNow_spec hik (ents7 L).toList 0 (ents7_key L) with ⟨h1,h2⟩|⟨j,e,h1,h2,h3⟩
 ·have hx : x ∉ keys7 L := fun hx => by
   obtain ⟨p,hp,rfl⟩ := List.mem_map.1 hx
   obtain ⟨e,he,hk⟩ := ents7_mem L p hp
   exact h2 e he hk
  rw [val7_out hx]
  constructor <;> simp [Instr.lookup,run_underlying hm,Go.MapKept.run_getObj_map (P := P) (show w.heap[b]? = some (.map (ents7 L) L.length) from h),run_checkKey hk hik,run_findKey hk h1,Result.andThen,hz,hx]
 ·have he : e ∈ (ents7 L).toList := List.mem_of_getElem? h2
  obtain ⟨p,hp,e1,e2⟩ := ents7_has L e he
  have hpx : p.1 = x := by rw [e1] at h3;simpa using h3
  subst hpx
  have hx : p.1 ∈ keys7 L := List.mem_map.2 ⟨p,hp,rfl⟩
  rw [val7_in hn hp]
  constructor <;> simp [Instr.lookup,run_underlying hm,Go.MapKept.run_getObj_map (P := P) (show w.heap[b]? = some (.map (ents7 L) L.length) from h),run_checkKey hk hik,run_findKey hk h1,Result.andThen,hx,e2]
def putMp (w : World) (b : Nat) (L : List (Int × Int)) : World := { w with heap := w.heap.setIfInBounds b (.map (ents7 L) L.length) }
theorem mp_put {P : Program} {t kt et : TypeId} (hm : P.underlying t = some (.map kt et)) (hk : P.underlying kt = some (.int .i64)) {w : World} {b : Nat} {L : List (Int × Int)} (h : MpAt w b L) (x y : Int) (hx : x ∉ keys7 L) :
  (Instr.mapUpdate t (.map (some b)) (.int .i64 x) (.int .u64 y)).run P w = .ok () (putMp w b (L ++ [(x,y)])) := by
 have hik : IsKey (.int .i64) (.int .i64 x) := by simp [IsKey]
 rcases findNow_spec hik (ents7 L).toList 0 (ents7_key L) with ⟨h1,h2⟩|⟨j,e,h1,h2,h3⟩
 ·simp [Instr.mapUpdate,run_underlying hm,Go.MapKept.run_getObj_map (P := P) (show w.heap[b]? = some (.map (ents7 L) L.length) from h),run_checkKey hk hik,run_findKey hk h1,Go.MapKept.run_setObj_map (P := P) _ (show w.heap[b]? = some (.map (ents7 L) L.length) from h),Result.andThen,putMp,ents7_push]
 ·have he : e ∈ (ents7 L).toList := List.mem_of_getElem? h2
  obtain ⟨p,hp,e1,e2⟩ := ents7_has L e he
  have hpx : p.1 = x := by rw [e1] at h3;simpa using h3
  exact absurd (List.mem_map.2 ⟨p,hp,hpx⟩) hx
theorem putMp_at {w : World} {b : Nat} {L : List (Int × Int)} (hb : b < w.heap.size) : MpAt (putMp w b L) b L := by
 unfold MpAt putMp
 simp [hb]
theorem putMp_below {base : Nat} {w w1 : World} {b : Nat} {L : List (Int × Int)} (h : Below base w w1) (hb : base ≤ b) : Below base w (putMp w1 b L) :=
 ⟨h.os,h.tape,h.output,by show _ ≤ (Array.setIfInBounds _ _ _).size;rw [Array.size_setIfInBounds];exact h.size,fun i hi => by
  show (Array.setIfInBounds _ _ _)[i]? = _
  rw [Array.getElem?_setIfInBounds_ne (by omega)];exact h.block i hi⟩
theorem MpAt.alloc {w : World} {b : Nat} {L : List (Int × Int)} (h : MpAt w b L) (o : Obj) : MpAt (w.alloc o) b L := by
 have hlt : b < w.heap.size := (Array.getElem?_eq_some_iff.1 h).1
 show (w.heap.push o)[b]? = _
 rw [Array.getElem?_push,if_neg (by omega)];exact h
theorem mp_made (w : World) : MpAt (w.alloc (.map #[] 0)) w.heap.size [] := by
 show (w.heap.push _)[w.heap.size]? = _
 simp [ents7]
end Go.Proofs.Ytmdoaijkaaaglaa.Hw
end
section
namespace Go.Proofs.Ytmdoaijkaaaglaa.Hw
open Go.RowKit Go.Proofs.Ytmdoaijkaaaglaa.Pr Go.Proofs.YtmdoaijkaaaglaaW.PrintWords Go.Proofs.YtmdoaijkaaaglaaW.PrintLast Go.Proofs.YtmdoaijkaaaglaaW.PrintMore
def maskC (L : List (Int × Int)) (bp : Nat) : List Value := ((List.range 64).map fun (i : Nat) => Value.bool (decide ((i : Int) ∈ keys7 L))) ++ [.map (some bp)]
theorem maskC_at (L : List (Int × Int)) (bp i : Nat) (h : i < 64) : (maskC L bp).toArray[i]? = some (.bool (decide ((i : Int) ∈ keys7 L))) := by
 rw [List.getElem?_toArray,maskC,List.getElem?_append_left (by simpa using h)]
 simp [h]
theorem maskC_map (L : List (Int × Int)) (bp : Nat) : (maskC L bp).toArray[64]? = some (.map (some bp)) := by
 rw [List.getElem?_toArray,maskC,List.getElem?_append_right (by simp)]
 simp
def MaskAt (w : World) (bm bp : Nat) (L : List (Int × Int)) : Prop := w.heap[bm]? = some (.cells (maskC L bp).toArray 74 (0,0)) ∧ MpAt w bp L
theorem MaskAt.below {w w1 : World} {bm bp : Nat} {L : List (Int × Int)} (h : MaskAt w bm bp L) (hb : Below w.heap.size w w1) : MaskAt w1 bm bp L :=
 ⟨(hb.block _ (blk_lt h.1)).trans h.1,(hb.block _ (blk_lt h.2)).trans h.2⟩
set_option maxHeartbeats 1000000 in
set_option maxRecDepth 100000 in
theorem has_walk (bm bp : Nat) (L : List (Int × Int)) (w : World) (hM : MaskAt w bm bp L) (i : Nat) (hi : i < 64) :
  Calls Try.prog 42 #[.pointer (some ⟨bm,0,none⟩),.int .i64 (i : Int)] w fun e w' => e = .returned (.bool (decide ((i : Int) ∈ keys7 L))) ∧ Below w.heap.size w w' := by
 have hc : w.cell? ⟨bm,i,none⟩ = some (.bool (decide ((i : Int) ∈ keys7 L))) := (blk_cell hM.1 i).trans (maskC_at L bp i hi)
 have q1 : decide ((i : Int) < 64) = true := decide_eq_true (by omega)
 have q2 : ((i : Int) < 64) = True := eq_true (by omega)
 have q3 : ((0 : Int) ≤ (i : Int)) = True := eq_true (by omega)
 obtain ⟨r,hr⟩ : ∃ r,r = decide ((i : Int) ∈ keys7 L) := ⟨_,rfl⟩
 rw [← hr] at hc ⊢
 clear hM hr
 go_enter Try.func42,Try.ntmps42
 go_wp2
 first|go_ret|((try simp only [Exit.inBlock,Exit.then]);refine bodyPost_ret (results_tmp rfl _ _ _) rfl ?_)
 exact ⟨rfl,Below.refl _ _⟩
theorem maskC_set (L : List (Int × Int)) (bp i : Nat) (y : Int) (h : i < 64) : (maskC L bp).toArray.setIfInBounds i (.bool true) = (maskC (L ++ [((i : Int),y)]) bp).toArray := by
 rw [List.setIfInBounds_toArray]
 congr 1
 unfold maskC
 rw [List.set_append_left _ _ (by simpa using h)]
 congr 1
 apply List.ext_getElem
 ·simp
 ·intro j h1 h2
  rw [List.getElem_set]
  simp only [List.getElem_map,List.getElem_range,keys7,List.map_append,List.map_cons,List.map_nil,List.mem_append,List.mem_cons,List.not_mem_nil,or_false]
  by_cases e : i = j
  ·subst e;simp
  ·rw [if_neg e]
   congr 1
   exact decide_eq_decide.2 ⟨Or.inl,fun hh => hh.resolve_right fun e2 => e (by omega)⟩
def ptsM (pts : List S56) : List (Int × Int) := pts.map fun x => (x.f0,x.f1)
theorem ptsM_next (pts : List S56) (n : Nat) (h : n < pts.length) : ptsM (pts.take n) ++ [((pts[n]).f0,(pts[n]).f1)] = ptsM (pts.take (n + 1)) := by
 unfold ptsM;rw [List.take_succ_eq_append_getElem h,List.map_append];rfl
theorem zeroW7 (w : World) : (zeroValue 22).run Try.prog w = .ok (.int .u64 0) w := by kernel_rfl
theorem putMp_other {w : World} {b : Nat} {L : List (Int × Int)} {k : Nat} (h : k ≠ b) : (putMp w b L).heap[k]? = w.heap[k]? := by
 unfold putMp
 exact Array.getElem?_setIfInBounds_ne (by omega)
theorem maskC_zero (bp : Nat) : Try.zeroCells74.setIfInBounds 64 (.map (some bp)) = (maskC [] bp).toArray := by kernel_rfl
theorem wrU7 {x : Int} (h0 : 0 ≤ x) (h1 : x < 18446744073709551616) : IntKind.u64.wrap x = x := by
 show x % 18446744073709551616 = x
 omega
theorem wrI7 {x : Int} (h0 : 0 ≤ x) (h1 : x < 9223372036854775808) : IntKind.i64.wrap x = x := by
 rw [i64_w];unfold wrap64;omega
theorem rdT_nat7 (pts : List S56) (i : Nat) (h : i < pts.length) : rd_T56 pts (i : Int) = pts[i] := by
 unfold rd_T56
 rw [Int.toNat_natCast,List.getD_eq_getElem?_getD,List.getElem?_eq_getElem h];rfl
def plcB (pts : List S56) (n : Int) : Bool := (pts.all fun x => decide (x.f0 < n)) && decide ((keys7 (ptsM pts)).Nodup)
theorem plcB_iff {pts : List S56} {n : Int} : plcB pts n = true ↔ (∀ x ∈ pts,x.f0 < n) ∧ (keys7 (ptsM pts)).Nodup := by
 unfold plcB;simp only [Bool.and_eq_true,List.all_eq_true,decide_eq_true_eq]
def KnwR (pts : List S56) (n : Int) (w : World) (e : Ending) (w' : World) : Prop :=
 ∃ a : Option Addr,e = .returned (.tuple #[.pointer a,.bool (plcB pts n)]) ∧ (plcB pts n = true → ∃ bm bp,a = some ⟨bm,0,none⟩ ∧ MaskAt w' bm bp (ptsM pts) ∧ w.heap.size ≤ bm ∧ w.heap.size ≤ bp)
theorem plcB_no1 {pts : List S56} {n : Int} {i : Nat} (h : i < pts.length) (hn : ¬ (pts[i]).f0 < n) : plcB pts n = false := by
 rw [Bool.eq_false_iff]
 exact fun h2 => hn ((plcB_iff.1 h2).1 _ (List.getElem_mem h))
theorem plcB_no2 {pts : List S56} {n : Int} {i : Nat} (h : i < pts.length) (hn : (pts[i]).f0 ∈ keys7 (ptsM (pts.take i))) : plcB pts n = false := by
 rw [Bool.eq_false_iff]
 intro h2
 have h3 := (plcB_iff.1 h2).2
 have h4 : (keys7 (ptsM (pts.take (i + 1)))).Nodup := by
  refine List.Nodup.sublist ?_ h3
  unfold keys7 ptsM
  exact ((List.take_sublist _ _).map _).map _
 rw [← ptsM_next pts i h] at h4
 unfold keys7 at h4 hn
 rw [List.map_append] at h4
 exact (List.nodup_append.1 h4).2.2 _ hn _ (by simp) rfl
set_option maxHeartbeats 4000000 in
set_option maxRecDepth 100000 in
theorem known_any (A : Option Addr) (c : Nat) (pts : List S56) (n : Int) (hl : pts.length ≤ 1000000) (w : World) (hr : Kd.C k56 w A pts.length pts) (hc : pts.length ≤ c) (h0 : 0 ≤ n) (h64 : n ≤ 64) (hx : ∀ x ∈ pts,0 ≤ x.f0 ∧ x.f0 < 18446744073709551616) :
  Calls Try.prog 41 #[.slice A pts.length c,.int .i64 n] w fun e w' => KnwR pts n w e w' ∧ Below w.heap.size w w' := by
 have HR := am hr
 have HX := am hx
 have hmm := @run_makeMap Try.prog
 have hb1 := below_alloc (Below.refl w.heap.size w) (.map #[] 0)
 have hM0 : MaskAt ((w.alloc (.map #[] 0)).alloc (.cells (maskC [] w.heap.size).toArray 74)) (w.heap.size + 1) w.heap.size [] := by
  refine ⟨?_,MpAt.alloc (mp_made w) _⟩
  have := blk_new (w.alloc (.map #[] 0)) (.cells (maskC [] w.heap.size).toArray 74)
  rwa [show (w.alloc (.map #[] 0)).heap.size = w.heap.size + 1 from Array.size_push _] at this
 have HM0 := am hM0
 have HB0 := am (below_alloc hb1 (.cells (maskC [] w.heap.size).toArray 74))
 clear hr hx hb1 hM0
 go_enter Try.func41,Try.ntmps41
 go_wp2
 clear hmm
 rw [maskC_zero]
 go_loopg [8,9,10,11,17] pts.length (fun kq v8 v9 v10 v11 v17 w' => ∃ (i : Nat),v17 = .int .i64 (i : Int) ∧ Aside0 (kq + i = pts.length) ∧ Aside0 ((∀ x ∈ pts.take i,x.f0 < n) ∧ (keys7 (ptsM (pts.take i))).Nodup) ∧ Aside0 (MaskAt w' (w.heap.size + 1) w.heap.size (ptsM (pts.take i))) ∧ Aside0 (Below w.heap.size w w'))
 case atStart => exact ⟨0,rfl,⟨rfl⟩,⟨by simp,by simp [ptsM,keys7]⟩,HM0,HB0⟩
 case round =>
  clear HM0 HB0
  obtain ⟨i,rfl,HK,HPO,HM,HB⟩ := hrel
  by_cases hlt : i < pts.length
  ·have p1 : ((0 : Int) ≤ (i : Int)) = True := eq_true (by omega)
   have q1 : ((i : Int) < (pts.length : Int)) = True := eq_true (by omega)
   have q0 : decide ((i : Int) < (pts.length : Int)) = true := decide_eq_true (by omega)
   obtain ⟨ad,e1,hx0,hx1⟩ := at_T56 HR.out (i : Int) (by omega) (by omega)
   cases e1
   replace hx0 := pw_cell_below HB.out hx0
   replace hx1 := pw_cell_below HB.out hx1
   rw [Int.toNat_natCast] at hx0 hx1
   have hrd := rdT_nat7 pts i hlt
   have hXb := HX.out _ (List.getElem_mem hlt)
   obtain ⟨k,hk⟩ : ∃ k : Nat,(pts[i]).f0 = (k : Int) := ⟨(pts[i]).f0.toNat,by omega⟩
   obtain ⟨Y,hY⟩ : ∃ y,y = (pts[i]).f1 := ⟨_,rfl⟩
   have hnx := ptsM_next pts i hlt
   have HNO1 := am (fun (h : ¬ (k : Int) < n) => plcB_no1 (n := n) hlt (by rw [hk];exact h))
   have HNO2 := am (fun (h : (k : Int) ∈ keys7 (ptsM (pts.take i))) => plcB_no2 (n := n) hlt (by rw [hk];exact h))
   have HPN := am (fun (h : (k : Int) < n) => show ∀ x ∈ pts.take (i + 1),x.f0 < n from by
    intro x hx2
    rw [List.take_succ_eq_append_getElem hlt] at hx2
    rcases List.mem_append.1 hx2 with h3|h3
    ·exact HPO.out.1 x h3
    ·rw [List.mem_singleton.1 h3,hk];exact h)
   rw [hrd] at hx0 hx1
   rw [hk] at hx0 hnx hXb
   rw [← hY] at hx1 hnx
   obtain ⟨L,hL⟩ : ∃ L,L = ptsM (pts.take i) := ⟨_,rfl⟩
   rw [← hL] at HM hnx HNO2
   have hndl : (keys7 L).Nodup := by rw [hL];exact HPO.out.2
   have hba := below_alloc (Below.refl wr.heap.size wr) (.cells #[.int .u64 (k : Int),.int .u64 Y] 56)
   have HMa := am (HM.out.below hba)
   have HBa := am (below_step HB.out hba)
   have hcm : (wr.alloc (.cells #[.int .u64 (k : Int),.int .u64 Y] 56)).cell? ⟨w.heap.size + 1,64,none⟩ = some (.map (some w.heap.size)) := (blk_cell HMa.out.1 64).trans (maskC_map L _)
   have hlook := (mp_look Try.underlying72 Try.underlying3 (zeroW7 _) HMa.out.2 hndl (k : Int)).2
   have hw1 : IntKind.u64.wrap n = n := wrU7 (by omega) (by omega)
   have HKB := am hXb
   by_cases hkn : (k : Int) < n
   case neg =>
    have q2 : decide ((k : Int) ≥ n) = true := decide_eq_true (by omega)
    have q3 : decide (n ≤ (k : Int)) = true := decide_eq_true (by omega)
    have HF := am (HNO1.out hkn)
    clear hrd hk hY hL hnx hndl hba hXb hlook hcm
    go_wp2
    first|go_ret2|((try simp only [Exit.inBlock,Exit.then]);refine bodyPost_ret (results_tmp2 rfl _ _ _) rfl ?_)
    exact ⟨⟨none,by rw [HF.out];rfl,fun h => by rw [HF.out] at h;cases h⟩,HBa.out⟩
   have hw2 : IntKind.i64.wrap (k : Int) = (k : Int) := wrI7 (by omega) (by omega)
   have q2 : decide ((k : Int) ≥ n) = false := decide_eq_false (by omega)
   have q3 : decide (n ≤ (k : Int)) = false := decide_eq_false (by omega)
   by_cases hin : (k : Int) ∈ keys7 L
   case pos =>
    rw [decide_eq_true hin] at hlook
    have HF := am (HNO2.out hin)
    clear hrd hk hY hL hnx hndl hba hXb hin
    go_wp2
    first|go_ret2|((try simp only [Exit.inBlock,Exit.then]);refine bodyPost_ret (results_tmp2 rfl _ _ _) rfl ?_)
    exact ⟨⟨none,by rw [HF.out];rfl,fun h => by rw [HF.out] at h;cases h⟩,HBa.out⟩
   have hout : (k : Int) ∉ keys7 L := hin
   rw [decide_eq_false hout] at hlook
   have hput := mp_put Try.underlying72 Try.underlying3 (show MpAt (wr.alloc (.cells #[.int .u64 (k : Int),.int .u64 Y] 56)).drew w.heap.size L from HMa.out.2) (k : Int) Y hout
   have HOut := am hout
   have HNX := am hnx
   have HPQ := am (show (∀ x ∈ pts.take (i + 1),x.f0 < n) ∧ (keys7 (ptsM (pts.take (i + 1)))).Nodup from ⟨HPN.out hkn,by
    rw [← hnx]
    unfold keys7
    rw [List.map_append,List.nodup_append]
    refine ⟨hndl,by simp,?_⟩
    intro a ha b hb2 e
    rw [List.map_cons,List.map_nil,List.mem_singleton] at hb2
    rw [hb2] at e
    rw [e] at ha
    exact hout ha⟩)
   clear hrd hk hY hL hnx hndl hout hba hXb hin
   go_wp2
   have hY1 : (wr.alloc (.cells #[.int .u64 (k : Int),.int .u64 Y] 56)).cell? ⟨wr.heap.size,1,none⟩ = some (.int .u64 Y) := (blk_cell (blk_new wr (.cells #[.int .u64 (k : Int),.int .u64 Y] 56)) 1).trans rfl
   refine start_ (n := 8) (S := (fun w' => w'.cell? ⟨w.heap.size + 1,64,none⟩ = some (.map (some w.heap.size)) ∧ w'.cell? ⟨wr.heap.size,1,none⟩ = some (.int .u64 Y))) (ds := [7]) (bz 8 0) (by kernel_rfl) rfl rfl ⟨hcm,hY1⟩ (fun hHeld => ?_)
   refine pu 0 39 (bz 8 1) ?_
   refine pu 1 40 (bz 8 3) ?_
   refine pu 2 41 (bz 8 7) ?_
   refine tu 3 42 (bz 8 15) hHeld ?_
   refine pu 4 43 (bz 8 31) ?_
   refine pu 5 44 (bz 8 63) ?_
   refine tu 6 45 (bz 8 127) hHeld ?_
   refine last_ (i := 7) (N := none) (bz 8 255) rfl rfl (by kernel_rfl) (by decide) (fun K hK => ?_)
   refine skip_ (w1 := ?_) (by rfl) rfl ?_ ?_
   rotate_left
   ·go_simp
    rfl
   refine hK.out _ _ ?_
   clear hK K
   refine done_ (by kernel_rfl) ?_
   clear hput hcm hY1 hlook
   obtain ⟨w5,hw5⟩ : ∃ W,W = putMp (wr.alloc (.cells #[.int .u64 (k : Int),.int .u64 Y] 56)).drew w.heap.size (L ++ [((k : Int),Y)]) := ⟨_,rfl⟩
   rw [← hw5]
   have hk64 : k < 64 := by omega
   have hb5 : w5.heap[w.heap.size + 1]? = some (.cells (maskC L w.heap.size).toArray 74 (0,0)) := by
    rw [hw5,putMp_other (by omega)];exact HMa.out.1
   have hm5 : MpAt w5 w.heap.size (L ++ [((k : Int),Y)]) := by
    rw [hw5];exact putMp_at (blk_lt HMa.out.2)
   have hB5 : Below w.heap.size w w5 := by
    rw [hw5];exact putMp_below (below_drew HBa.out) (Nat.le_refl _)
   have hc5 : w5.cell? ⟨w.heap.size + 1,k,none⟩ = some (.bool (decide ((k : Int) ∈ keys7 L))) := (blk_cell hb5 k).trans (maskC_at L _ k hk64)
   have hf5 := blk_frozen hb5 k
   have q4 : decide ((k : Int) < 64) = true := decide_eq_true (by omega)
   have q5 : ((k : Int) < 64) = True := eq_true (by omega)
   have q6 : ((0 : Int) ≤ (k : Int)) = True := eq_true (by omega)
   have HB6 := am (hB5.setCell (p := ⟨w.heap.size + 1,k,none⟩) (Nat.le_succ _) (.bool true))
   have HM6 := am (show MaskAt (w5.setCell ⟨w.heap.size + 1,k,none⟩ (.bool true)) (w.heap.size + 1) w.heap.size (ptsM (pts.take (i + 1))) from by
    rw [← HNX.out]
    exact ⟨blk_put hb5 k _ (maskC_set L _ k Y hk64),(Below.heap_setCell w5 ⟨w.heap.size + 1,k,none⟩ _ _ (by show w.heap.size ≠ w.heap.size + 1;omega)).trans hm5⟩)
   clear hw5 hb5 hm5 hB5
   go_wp2
   go_roundg (pts.length - (i + 1))
   case measure => have := HK.out;omega
   case rel => exact ⟨i + 1,by go_num,⟨by omega⟩,HPQ,HM6,HB6⟩
  ·have q0 : decide ((i : Int) < (pts.length : Int)) = false := decide_eq_false (by omega)
   have hn : i = pts.length := by have := HK.out;omega
   have hM := HM.out
   rw [hn,List.take_length] at hM
   have HMM := am hM
   clear hM
   go_wp2
   first|go_ret2|((try simp only [Exit.inBlock,Exit.then]);refine bodyPost_ret (results_tmp2 rfl _ _ _) rfl ?_)
   have hpo := HPO.out
   rw [hn,List.take_length] at hpo
   have hpy := plcB_iff.2 hpo
   exact ⟨⟨some ⟨w.heap.size + 1,0,none⟩,by rw [hpy];rfl,fun _ => ⟨_,_,rfl,HMM.out,by omega,by omega⟩⟩,HB.out⟩
theorem any_no {α : Type} {q : α → Bool} {l : List α} {n : Nat} (h : n < l.length) (hq : q l[n] = false) : (l.drop n).any q = (l.drop (n + 1)).any q := by rw [List.drop_eq_getElem_cons h,List.any_cons,hq,Bool.false_or]
theorem any_yes {α : Type} {q : α → Bool} {l : List α} {n : Nat} (h : n < l.length) (hq : q l[n] = true) : (l.drop n).any q = true := by rw [List.drop_eq_getElem_cons h,List.any_cons,hq,Bool.true_or]
theorem any_end {α : Type} {q : α → Bool} {l : List α} : (l.drop l.length).any q = false := by rw [List.drop_length];rfl
set_option maxHeartbeats 4000000 in
set_option maxRecDepth 100000 in
theorem idx_row (q : List Int → Bool) (bw : Nat) (A : Option Addr) (c : Nat) (l : List (List Int)) (w : World) (hr : Kd.C (Kd.slice 22 (Kd.int .u64)) w A l.length l) (hl : l.length ≤ 1000000000)
  (hcall : ∀ (W : World) (A4 : Option Addr) (c4 : Nat) (y : List Int),0 < l.length → Below w.heap.size w W → Calls Try.prog 88 #[.slice A4 y.length c4,.pointer (some ⟨bw,0,none⟩)] W fun e w' => e = .returned (.bool (q y)) ∧ Below w.heap.size w w') :
  Calls Try.prog 101 #[.slice A l.length c,.func (.func 88) #[] #[.pointer (some ⟨bw,0,none⟩)]] w fun e w' => ∃ r : Int,e = .returned (.int .i64 r) ∧ decide (0 ≤ r) = l.any q ∧ Below w.heap.size w w' := by
 have HR := Aside0.mk hr
 have HC := Aside0.mk hcall
 clear hr hcall
 go_enter Try.func101,Try.ntmps101
 go_wp2
 go_loopg [5,8] l.length (fun kq v5 v8 w' => ∃ (n : Nat),v8 = .int .i64 (n : Int) ∧ Aside0 (kq + n = l.length) ∧ Aside0 (l.any q = (l.drop n).any q) ∧ Aside0 (Below w.heap.size w w'))
 case atStart => exact ⟨0,rfl,⟨rfl⟩,⟨rfl⟩,⟨Below.refl _ _⟩⟩
 case round =>
  obtain ⟨n,rfl,HK,HN,HB⟩ := hrel
  by_cases hlt : n < l.length
  ·have p1 : ((0 : Int) ≤ (n : Int)) = True := eq_true (by omega)
   have q1 : ((n : Int) < (l.length : Int)) = True := eq_true (by omega)
   obtain ⟨ad,A4,c4,e1,hy1,hc4,hC4⟩ := at_L2 (Kd.C_below HR.out HB.out) (n : Int) (by omega) (by omega)
   cases e1
   rw [Int.toNat_natCast] at hy1
   have hrd : rd_L2 l (n : Int) = l[n] := by unfold rd_L2;rw [Int.toNat_natCast,List.getD_eq_getElem?_getD,List.getElem?_eq_getElem hlt];rfl
   obtain ⟨y,hy⟩ : ∃ y,y = rd_L2 l (n : Int) := ⟨_,rfl⟩
   rw [← hy] at hy1 hrd hc4 hC4
   have hc := HC.out wr A4 c4 y (by omega) HB.out
   clear hy hC4
   cases hq : q y with
   | true =>
    have hv : l.any q = true := by rw [HN.out];exact any_yes hlt (by rw [← hrd];exact hq)
    have HV := Aside0.mk hv
    rw [hq] at hc
    have HCC := Aside0.mk hc
    clear hv hq hc hrd
    go_wp2_with (first|(go_at_call 88;(with_reducible refine HCC.out.mono ?_);rintro e w' ⟨rfl,hb'⟩;have HB2 := Aside0.mk hb';clear hb'))
    first|go_ret|((try simp only [Exit.inBlock,Exit.then]);refine bodyPost_ret (results_tmp rfl _ _ _) rfl ?_)
    exact ⟨_,rfl,by rw [HV.out];exact decide_eq_true (by omega),HB2.out⟩
   | false =>
    have hv : l.any q = (l.drop (n + 1)).any q := by rw [HN.out];exact any_no hlt (by rw [← hrd];exact hq)
    have HV := Aside0.mk hv
    rw [hq] at hc
    have HCC := Aside0.mk hc
    clear hv hq hc hrd
    go_wp2_with (first|(go_at_call 88;(with_reducible refine HCC.out.mono ?_);rintro e w' ⟨rfl,hb'⟩;have HB2 := Aside0.mk hb';clear hb'))
    go_roundg (l.length - (n + 1))
    case measure => have := HK.out;omega
    case rel => exact ⟨n + 1,by go_num,⟨by omega⟩,HV,HB2⟩
  ·have hd : decide ((n : Int) < (l.length : Int)) = false := decide_eq_false (by omega)
   have hn : n = l.length := by have := HK.out;omega
   subst hn
   have hv : l.any q = false := by rw [HN.out];exact any_end
   have HV := Aside0.mk hv
   clear hv
   go_wp2
   first|go_ret|((try simp only [Exit.inBlock,Exit.then]);refine bodyPost_ret (results_tmp rfl _ _ _) rfl ?_)
   exact ⟨_,rfl,by rw [HV.out];rfl,HB.out⟩
theorem has_row (q : List Int → Bool) (bw : Nat) (A : Option Addr) (c : Nat) (l : List (List Int)) (w : World) (hr : Kd.C (Kd.slice 22 (Kd.int .u64)) w A l.length l) (hl : l.length ≤ 1000000000)
  (hcall : ∀ (W : World) (A4 : Option Addr) (c4 : Nat) (y : List Int),0 < l.length → Below w.heap.size w W → Calls Try.prog 88 #[.slice A4 y.length c4,.pointer (some ⟨bw,0,none⟩)] W fun e w' => e = .returned (.bool (q y)) ∧ Below w.heap.size w w') :
  Calls Try.prog 87 #[.slice A l.length c,.func (.func 88) #[] #[.pointer (some ⟨bw,0,none⟩)]] w fun e w' => e = .returned (.bool (l.any q)) ∧ Below w.heap.size w w' := by
 have hi := Aside0.mk (idx_row q bw A c l w hr hl hcall)
 clear hr hcall
 go_enter Try.func87,Try.ntmps87
 go_wp2_with (first|(go_at_call 101;(with_reducible refine hi.out.mono ?_);rintro e w' ⟨r,rfl,hv,hb'⟩;have HV := Aside0.mk hv;have HB2 := Aside0.mk hb';clear hv hb'))
 first|go_ret|((try simp only [Exit.inBlock,Exit.then]);refine bodyPost_ret (results_tmp rfl _ _ _) rfl ?_)
 exact ⟨by first|(rw [HV.out];done)|(rw [HV.out] <;> rfl)|(rw [← HV.out] <;> rfl),HB2.out⟩
def oddRow (l : List (List Int)) (y : List Int) : Bool := (y.length : Int) != ((rd_L2 l 0).length : Int)
set_option maxHeartbeats 4000000 in
set_option maxRecDepth 100000 in
theorem rect1_walk (A : Option Addr) (c : Nat) (l : List (List Int)) (bw : Nat) (w W : World) (hr : Kd.C (Kd.slice 22 (Kd.int .u64)) W A l.length l) (h0 : 0 < l.length) (hB : Below w.heap.size w W) (hbx : W.heap[bw]? = some (.cells #[.slice A l.length c] 25 (0,0)))
  (A4 : Option Addr) (c4 : Nat) (y : List Int) :
  Calls Try.prog 88 #[.slice A4 y.length c4,.pointer (some ⟨bw,0,none⟩)] W fun e w' => e = .returned (.bool (oddRow l y)) ∧ Below w.heap.size w w' := by
 have q1 : ((0 : Int) < (l.length : Int)) = True := eq_true (by omega)
 have q2 : (0 < l.length) = True := eq_true h0
 have hb0 : W.cell? ⟨bw,0,none⟩ = some (.slice A l.length c) := (blk_cell hbx 0).trans rfl
 obtain ⟨ad,A5,c5,e1,hy1,hc5,hC5⟩ := at_L2 hr (0 : Int) (by omega) (by omega)
 cases e1
 rw [show ((0 : Int)).toNat = 0 from rfl,Addr.add_zero'] at hy1
 have HB := Aside0.mk hB
 clear hB hbx hr hC5 hc5 h0
 go_enter Try.func88,Try.ntmps88
 go_wp2
 first|go_ret|((try simp only [Exit.inBlock,Exit.then]);refine bodyPost_ret (results_tmp rfl _ _ _) rfl ?_)
 exact ⟨rfl,HB.out⟩
def matrix_rect.f (l : List (List Int)) : Option Bool := if l.length ≤ 1000000000 then some (!l.any (oddRow l)) else none
set_option maxHeartbeats 4000000 in
set_option maxRecDepth 100000 in
theorem matrix_rect.calls (A0 : Option Addr) (c0 : Nat) (l0 : List (List Int)) (r : Bool) (w : World) (hr0 : Kd.C (Kd.slice 22 (Kd.int .u64)) w A0 l0.length l0) (hc0 : l0.length ≤ c0) (h : matrix_rect.f l0 = some r) :
  Calls Try.prog 55 #[.slice A0 l0.length c0] w fun e w' => e = .returned (.bool r) ∧ Below w.heap.size w w' := by
 unfold matrix_rect.f at h
 by_cases hl : l0.length ≤ 1000000000
 ·rw [if_pos hl] at h
  obtain rfl := Option.some.inj h
  have hb := below_alloc (Below.refl w.heap.size w) (.cells #[.slice A0 l0.length c0] 25)
  have hx := blk_new w (.cells #[.slice A0 l0.length c0] 25)
  have HH := Aside0.mk (has_row (oddRow l0) w.heap.size A0 c0 l0 (w.alloc (.cells #[.slice A0 l0.length c0] 25)) (Kd.C_below hr0 hb) hl (fun W A4 c4 y h0 hB => by
   exact rect1_walk A0 c0 l0 w.heap.size _ W (Kd.C_below (Kd.C_below hr0 hb) hB) h0 hB (blk_below hx hB) A4 c4 y))
  have HB := Aside0.mk hb
  clear hr0 h hb hx
  go_enter Try.func55,Try.ntmps55
  go_wp2_with (first|(go_at_call 87;(with_reducible refine HH.out.mono ?_);rintro e w' ⟨rfl,hb'⟩;have HB2 := Aside0.mk (below_step HB.out hb');clear hb'))
  first|go_ret|((try simp only [Exit.inBlock,Exit.then]);refine bodyPost_ret (results_tmp rfl _ _ _) rfl ?_)
  exact ⟨rfl,HB2.out⟩
 ·rw [if_neg hl] at h;cases h
end Go.Proofs.Ytmdoaijkaaaglaa.Hw
end
