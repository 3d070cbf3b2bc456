/- Part 4 of the proof's texts, joined in build order. -/
import Derived.Sort.AssemblyPlain
import Derived.Test.YtmdoaijkaaaglaaZQ71
import Derived.Test.YtmdoaijkaaaglaaZQ72
import Derived.Test.YtmdoaijkaaaglaaZQ73
import Derived.Lib.Hide
import Derived.Lib.SliceRun
import Derived.Sort.LotD5
import Derived.Laws.Bits64
import Derived.Sort.Row
import Derived.RegionTactic
set_option linter.unusedVariables false
set_option linter.unusedSimpArgs false
section
namespace Go.Proofs.Ytmdoaijkaaaglaa.Srt
open Go.RowKit Go.Proofs.Ytmdoaijkaaaglaa.Pr Go.Proofs.YtmdoaijkaaaglaaW.PrintWords Go.Proofs.YtmdoaijkaaaglaaW.PrintLast Go.Proofs.YtmdoaijkaaaglaaW.PrintMore Go.Sort
theorem sless (a b : Int) : cmp_Less_uint64.f a b = some (ltInt a b) := by
 unfold cmp_Less_uint64.f cmp_isNaN_uint64.f ltInt
 simp
theorem sw64 {n : Int} (h0 : -9223372036854775808 ≤ n) (h1 : n < 9223372036854775808) : wrap64 n = n := by unfold wrap64;omega
theorem srd (l : List Int) (i : Nat) : rd l (i : Int) = l.toArray[i]! := by
 unfold rd
 rw [Int.toNat_natCast]
 simp [List.getD_eq_getElem?_getD]
theorem sswp (l : List Int) (i j : Nat) : ((l.set i (rd l (j : Int))).set j (rd l (i : Int))).toArray = swp l.toArray i j := by
 rw [srd,srd];unfold swp;simp
theorem slen (l : List Int) (i j : Nat) (x y : Int) : ((l.set i x).set j y).length = l.length := by simp
theorem tl_swp (l : List Int) (i j : Nat) : (swp l.toArray i j).toList = (l.set i (rd l (j : Int))).set j (rd l (i : Int)) := by rw [← sswp]
section
variable {R : List Int}
theorem ins_l1 (a b i : Nat) (hb : b < 1099511627776) (hi : i < b) : ∀ (j : Nat) (l : List Int),j ≤ i → b ≤ l.length → l.length < 1099511627776 →
  Ev (fun k => slices_insertionSortOrdered_uint64.l0 k (insInner ltInt a j l.toArray).toList (a : Int) (b : Int) ((i + 1 : Nat) : Int)) R →
  Ev (fun k => slices_insertionSortOrdered_uint64.l1 k l (a : Int) (b : Int) (i : Int) (j : Int)) R
 | 0,l,hj,hbl,hl,h => by
  refine Ev.step (fun k => ?_) h
  simp only [slices_insertionSortOrdered_uint64.l1]
  rw [if_neg (by omega),sw64 (by omega) (by omega)]
  simp only [insInner]
  rfl
 | j + 1,l,hj,hbl,hl,h => by
  have e1 : wrap64 (((j + 1 : Nat) : Int) - 1) = (j : Int) := by rw [sw64 (by omega) (by omega)];omega
  by_cases hja : a < j + 1
  ·by_cases hlt : ltInt (l.toArray[j + 1]!) (l.toArray[j]!) = true
   ·have hs : insInner ltInt a (j + 1) l.toArray = insInner ltInt a j (swp l.toArray (j + 1) j) := by
     rw [insInner,if_pos (by rw [hlt,decide_eq_true (show j + 1 > a from hja)];rfl)]
    rw [hs,← sswp] at h
    have ih := ins_l1 a b i hb hi j ((l.set (j + 1) (rd l (j : Int))).set j (rd l ((j + 1 : Nat) : Int))) (by omega) (by simpa using hbl) (by simpa using hl) h
    refine Ev.step (fun k => ?_) ih
    simp only [slices_insertionSortOrdered_uint64.l1]
    rw [e1,if_pos (by omega),if_pos (by omega),if_pos (by omega),if_pos (by omega),if_pos (by omega),sless,srd,srd,hlt,Option.bind_some,if_pos rfl]
    rfl
   ·have hs : insInner ltInt a (j + 1) l.toArray = l.toArray := by
     rw [insInner,if_neg (fun h => hlt (Bool.and_eq_true_iff.1 h).2)]
    rw [hs] at h
    refine Ev.step (fun k => ?_) h
    simp only [slices_insertionSortOrdered_uint64.l1]
    rw [e1,if_pos (by omega),if_pos (by omega),if_pos (by omega),if_pos (by omega),if_pos (by omega),sless,srd,srd,Option.bind_some,if_neg hlt,sw64 (by omega) (by omega)]
    rfl
  ·have hs : insInner ltInt a (j + 1) l.toArray = l.toArray := by
    rw [insInner,if_neg (fun h => hja (of_decide_eq_true (Bool.and_eq_true_iff.1 h).1))]
   rw [hs] at h
   refine Ev.step (fun k => ?_) h
   simp only [slices_insertionSortOrdered_uint64.l1]
   rw [if_neg (by omega),sw64 (by omega) (by omega)]
   rfl
theorem insInner_size (a : Nat) : ∀ (j : Nat) (d : Array Int),(insInner ltInt a j d).size = d.size
 | 0,d => rfl
 | j + 1,d => by
  rw [insInner]
  split
  ·rw [insInner_size a j,size_swp]
  ·rfl
theorem ins_l0 (a b : Nat) (hb : b < 1099511627776) : ∀ (n i : Nat) (l : List Int),n = b - i → b ≤ l.length → l.length < 1099511627776 →
  Ev (fun k => slices_insertionSortOrdered_uint64.l0 k l (a : Int) (b : Int) (i : Int)) (insOuter ltInt a b i l.toArray).toList
 | 0,i,l,hn,hbl,hl => by
  rw [insOuter,if_neg (by omega)]
  refine Ev.step (fun k => ?_) (Ev.now _)
  simp only [slices_insertionSortOrdered_uint64.l0]
  rw [if_neg (by omega)]
 | n + 1,i,l,hn,hbl,hl => by
  rw [insOuter,if_pos (by omega)]
  have hsz : (insInner ltInt a i l.toArray).toList.length = l.length := by rw [Array.length_toList,insInner_size];simp
  have ih := ins_l0 a b hb n (i + 1) (insInner ltInt a i l.toArray).toList (by omega) (by omega) (by omega)
  rw [Array.toArray_toList] at ih
  refine Ev.step (fun k => ?_) (ins_l1 a b i hb (by omega) i l (Nat.le_refl _) hbl hl ih)
  simp only [slices_insertionSortOrdered_uint64.l0]
  rw [if_pos (by omega)]
theorem ins_ev (a b : Nat) (l : List Int) (hab : a ≤ b) (hbl : b ≤ l.length) (hl : l.length < 1099511627776) :
  Ev (fun k => slices_insertionSortOrdered_uint64.f k l (a : Int) (b : Int)) (insertionSort ltInt l.toArray a b).toList := by
 have h := ins_l0 a b (by omega) _ (a + 1) l rfl hbl hl
 unfold slices_insertionSortOrdered_uint64.f insertionSort
 rw [sw64 (by omega) (by omega)]
 exact h
theorem siftDown_size (hi first : Nat) : ∀ (n root : Nat) (d : Array Int),n = hi - root → (siftDown ltInt hi first root d).size = d.size := by
 intro n
 induction n using Nat.strongRecOn with
 | _ n ih =>
  intro root d hn
  rw [siftDown]
  split
  ·rfl
  ·split
   ·split
    ·rfl
    ·split
     ·rw [ih (hi - (2 * root + 2)) (by omega) (2 * root + 2) _ rfl,size_swp]
     ·rfl
   ·split
    ·rfl
    ·rw [ih (hi - (2 * root + 1)) (by omega) (2 * root + 1) _ rfl,size_swp]
def childOf (hi first root : Nat) (d : Array Int) : Nat := if (decide (2 * root + 1 + 1 < hi) && ltInt d[first + (2 * root + 1)]! d[first + (2 * root + 1) + 1]!) = true then 2 * root + 2 else 2 * root + 1
theorem siftDown_eq (hi first root : Nat) (d : Array Int) : siftDown ltInt hi first root d =
  if 2 * root + 1 ≥ hi then d else (if ltInt d[first + root]! d[first + childOf hi first root d]! = true then siftDown ltInt hi first (childOf hi first root d) (swp d (first + root) (first + childOf hi first root d)) else d) := by
 rw [siftDown]
 split
 ·rfl
 ·unfold childOf
  by_cases h : (decide (2 * root + 1 + 1 < hi) && ltInt d[first + (2 * root + 1)]! d[first + (2 * root + 1) + 1]!) = true
  ·rw [if_pos h,if_pos h]
   have h2 : 2 * root + 2 < hi := of_decide_eq_true (Bool.and_eq_true_iff.1 h).1
   cases hc : ltInt d[first + root]! d[first + (2 * root + 2)]! with
   | true => rw [if_neg (by decide),dif_pos h2,if_pos rfl]
   | false => rw [if_pos (by decide),if_neg (by decide)]
  ·rw [if_neg h,if_neg h]
   cases hc : ltInt d[first + root]! d[first + (2 * root + 1)]! with
   | true => rw [if_neg (by decide),if_pos rfl]
   | false => rw [if_pos (by decide),if_neg (by decide)]
theorem sift_j1 (hi first root c : Nat) (f : Bool) (l : List Int) (hc : c = if f = true then 2 * root + 2 else 2 * root + 1) (hlt : c < hi) (hfl : first + hi ≤ l.length) (hl : l.length < 1099511627776)
  (hy : ltInt l.toArray[first + root]! l.toArray[first + c]! = true → Ev (fun k => slices_siftDownOrdered_uint64.l0 k ((l.set (first + root) (rd l ((first + c : Nat) : Int))).set (first + c) (rd l ((first + root : Nat) : Int))) (hi : Int) (first : Int) (c : Int)) R)
  (hn : ltInt l.toArray[first + root]! l.toArray[first + c]! = false → R = l) :
  Ev (fun k => slices_siftDownOrdered_uint64.j1 k l (hi : Int) (first : Int) (root : Int) ((2 * root + 1 : Nat) : Int) f) R := by
 have hr : root < c := by split at hc <;> omega
 have e5 : wrap64 ((first : Int) + (root : Int)) = ((first + root : Nat) : Int) := by rw [sw64 (by omega) (by omega)];omega
 have e6 : wrap64 ((first : Int) + (c : Int)) = ((first + c : Nat) : Int) := by rw [sw64 (by omega) (by omega)];omega
 cases f with
 | true =>
  have hc2 : c = 2 * root + 2 := by rw [hc,if_pos rfl]
  have e2 : wrap64 (((2 * root + 1 : Nat) : Int) + 1) = (c : Int) := by rw [sw64 (by omega) (by omega)];omega
  cases hb : ltInt l.toArray[first + root]! l.toArray[first + c]! with
  | false =>
   rw [hn hb]
   refine Ev.step (fun k => ?_) (Ev.now _)
   simp only [slices_siftDownOrdered_uint64.j1]
   rw [if_pos trivial,e2,e5,e6,if_pos (by omega),if_pos (by omega),if_pos (by omega),if_pos (by omega),sless,srd,srd,hb,Option.bind_some,if_neg (by decide)]
  | true =>
   refine Ev.step (fun k => ?_) (hy hb)
   simp only [slices_siftDownOrdered_uint64.j1]
   rw [if_pos trivial,e2,e5,e6,if_pos (by omega),if_pos (by omega),if_pos (by omega),if_pos (by omega),sless,show ltInt (rd l ((first + root : Nat) : Int)) (rd l ((first + c : Nat) : Int)) = true from by rw [srd,srd];exact hb,Option.bind_some,if_pos rfl]
   rfl
 | false =>
  have hc2 : ((2 * root + 1 : Nat) : Int) = (c : Int) := by rw [hc,if_neg (by decide)]
  rw [hc2]
  cases hb : ltInt l.toArray[first + root]! l.toArray[first + c]! with
  | false =>
   rw [hn hb]
   refine Ev.step (fun k => ?_) (Ev.now _)
   simp only [slices_siftDownOrdered_uint64.j1]
   rw [if_neg (by decide),e5,e6,if_pos (by omega),if_pos (by omega),if_pos (by omega),if_pos (by omega),sless,srd,srd,hb,Option.bind_some,if_neg (by decide)]
  | true =>
   refine Ev.step (fun k => ?_) (hy hb)
   simp only [slices_siftDownOrdered_uint64.j1]
   rw [if_neg (by decide),e5,e6,if_pos (by omega),if_pos (by omega),if_pos (by omega),if_pos (by omega),sless,show ltInt (rd l ((first + root : Nat) : Int)) (rd l ((first + c : Nat) : Int)) = true from by rw [srd,srd];exact hb,Option.bind_some,if_pos rfl]
   rfl
theorem sift_l0 (hi first : Nat) : ∀ (n root : Nat) (l : List Int),hi ≤ root + n → first + hi ≤ l.length → l.length < 1099511627776 → root < 1099511627776 →
  Ev (fun k => slices_siftDownOrdered_uint64.l0 k l (hi : Int) (first : Int) (root : Int)) (siftDown ltInt hi first root l.toArray).toList
 | 0,root,l,hn,hfl,hl,hr => by
  have e1 : wrap64 (wrap64 (2 * (root : Int)) + 1) = ((2 * root + 1 : Nat) : Int) := by rw [sw64 (n := 2 * (root : Int)) (by omega) (by omega),sw64 (by omega) (by omega)];omega
  rw [siftDown_eq,if_pos (by omega)]
  refine Ev.step (fun k => ?_) (Ev.now _)
  simp only [slices_siftDownOrdered_uint64.l0,e1]
  rw [if_pos (by omega)]
 | n + 1,root,l,hn,hfl,hl,hr => by
  have e1 : wrap64 (wrap64 (2 * (root : Int)) + 1) = ((2 * root + 1 : Nat) : Int) := by rw [sw64 (n := 2 * (root : Int)) (by omega) (by omega),sw64 (by omega) (by omega)];omega
  rw [siftDown_eq]
  by_cases h1 : 2 * root + 1 ≥ hi
  ·rw [if_pos h1]
   refine Ev.step (fun k => ?_) (Ev.now _)
   simp only [slices_siftDownOrdered_uint64.l0,e1]
   rw [if_pos (by omega)]
  ·rw [if_neg h1]
   have e2 : wrap64 (((2 * root + 1 : Nat) : Int) + 1) = ((2 * root + 2 : Nat) : Int) := by rw [sw64 (by omega) (by omega)];omega
   have hj : ∀ f : Bool,childOf hi first root l.toArray = (if f = true then 2 * root + 2 else 2 * root + 1) → (f = true → 2 * root + 2 < hi) → Ev (fun k => slices_siftDownOrdered_uint64.j1 k l (hi : Int) (first : Int) (root : Int) ((2 * root + 1 : Nat) : Int) f)
     (if ltInt l.toArray[first + root]! l.toArray[first + childOf hi first root l.toArray]! = true then siftDown ltInt hi first (childOf hi first root l.toArray) (swp l.toArray (first + root) (first + childOf hi first root l.toArray)) else l.toArray).toList := by
    intro f hc hf
    have hcl : childOf hi first root l.toArray < hi ∧ root < childOf hi first root l.toArray := by
     rw [hc]
     cases f with
     | true => have := hf rfl;rw [if_pos rfl];omega
     | false => rw [if_neg (by decide)];omega
    refine sift_j1 hi first root _ f l hc hcl.1 hfl hl (fun hb => ?_) (fun hb => ?_)
    ·rw [if_pos hb,← sswp]
     exact sift_l0 hi first n _ _ (by omega) (by rw [slen];exact hfl) (by rw [slen];exact hl) (by omega)
    ·rw [if_neg (by rw [hb];decide)]
   by_cases h2 : 2 * root + 1 + 1 < hi
   ·have e3 : wrap64 ((first : Int) + ((2 * root + 1 : Nat) : Int)) = ((first + (2 * root + 1) : Nat) : Int) := by rw [sw64 (by omega) (by omega)];omega
    have e4 : wrap64 (((first + (2 * root + 1) : Nat) : Int) + 1) = ((first + (2 * root + 1) + 1 : Nat) : Int) := by rw [sw64 (by omega) (by omega)];omega
    have hj' := hj (ltInt l.toArray[first + (2 * root + 1)]! l.toArray[first + (2 * root + 1) + 1]!) (by unfold childOf;rw [decide_eq_true h2,Bool.true_and]) (fun _ => by omega)
    refine Ev.step (fun k => ?_) hj'
    simp only [slices_siftDownOrdered_uint64.l0,e1,e2,e3,e4]
    rw [if_neg (by omega),if_pos (by omega),if_pos (by omega),if_pos (by omega),if_pos (by omega),if_pos (by omega),sless,srd,srd,Option.bind_some]
   ·have hj' := hj false (by unfold childOf;rw [decide_eq_false h2,Bool.false_and]) (fun h => by cases h)
    refine Ev.step (fun k => ?_) hj'
    simp only [slices_siftDownOrdered_uint64.l0,e1,e2]
    rw [if_neg (by omega),if_neg (by omega)]
theorem sift_ev (hi first root : Nat) (l : List Int) (hfl : first + hi ≤ l.length) (hl : l.length < 1099511627776) (hr : root < 1099511627776) :
  Ev (fun k => slices_siftDownOrdered_uint64.f k l (root : Int) (hi : Int) (first : Int)) (siftDown ltInt hi first root l.toArray).toList := sift_l0 hi first hi root l (by omega) hfl hl hr
theorem toL (d : Array Int) : d.toList.toArray = d := rfl
theorem sift_len (hi first root : Nat) (l : List Int) : (siftDown ltInt hi first root l.toArray).toList.length = l.length := by
 rw [Array.length_toList,siftDown_size hi first _ root _ rfl];simp
theorem pop_l1 (a : Nat) : ∀ (n : Nat) (l : List Int),a + n ≤ l.length → l.length < 1099511627776 →
  Ev (fun k => slices_heapSortOrdered_uint64.l1 k l (a : Int) 0 ((n : Int) - 1)) (heapPop ltInt a n l.toArray).toList
 | 0,l,h,hl => by
  refine Ev.step (fun k => ?_) (Ev.now _)
  simp only [slices_heapSortOrdered_uint64.l1]
  rw [if_neg (by omega)]
  rfl
 | n + 1,l,h,hl => by
  have e1 : ((n + 1 : Nat) : Int) - 1 = (n : Int) := by omega
  have e2 : wrap64 ((a : Int) + (n : Int)) = ((a + n : Nat) : Int) := by rw [sw64 (by omega) (by omega)];omega
  have e3 : wrap64 ((n : Int) - 1) = (n : Int) - 1 := sw64 (by omega) (by omega)
  rw [heapPop,← sswp]
  have hs := sift_ev n a 0 ((l.set a (rd l ((a + n : Nat) : Int))).set (a + n) (rd l (a : Int))) (by rw [slen];omega) (by rw [slen];exact hl) (by omega)
  have ih := pop_l1 a n (siftDown ltInt n a 0 ((l.set a (rd l ((a + n : Nat) : Int))).set (a + n) (rd l (a : Int))).toArray).toList (by rw [sift_len,slen];omega) (by rw [sift_len,slen];exact hl)
  rw [toL] at ih
  refine Ev.step (f := fun k => (slices_siftDownOrdered_uint64.f k ((l.set a (rd l ((a + n : Nat) : Int))).set (a + n) (rd l (a : Int))) 0 (n : Int) (a : Int)).bind fun t => slices_heapSortOrdered_uint64.l1 k t (a : Int) 0 ((n : Int) - 1)) (fun k => ?_) (Ev.bind hs ih)
  simp only [slices_heapSortOrdered_uint64.l1,e1,e2,e3]
  rw [if_pos (by omega),if_pos (by omega),if_pos (by omega),if_pos (by omega),if_pos (by omega)]
  rfl
theorem build_l0 (a hi : Nat) (hhi : 0 < hi) : ∀ (n : Nat) (l : List Int),n ≤ hi → a + hi ≤ l.length → l.length < 1099511627776 →
  Ev (fun k => slices_heapSortOrdered_uint64.l0 k l (a : Int) 0 (hi : Int) ((n : Int) - 1)) (heapPop ltInt a hi (heapBuild ltInt hi a n l.toArray)).toList
 | 0,l,hn,h,hl => by
  have e3 : wrap64 ((hi : Int) - 1) = (hi : Int) - 1 := sw64 (by omega) (by omega)
  refine Ev.step (fun k => ?_) (pop_l1 a hi l h hl)
  simp only [slices_heapSortOrdered_uint64.l0]
  rw [if_neg (by omega),e3]
 | n + 1,l,hn,h,hl => by
  have e1 : ((n + 1 : Nat) : Int) - 1 = (n : Int) := by omega
  have e3 : wrap64 ((n : Int) - 1) = (n : Int) - 1 := sw64 (by omega) (by omega)
  rw [heapBuild]
  have hs := sift_ev hi a n l h hl (by omega)
  have ih := build_l0 a hi hhi n (siftDown ltInt hi a n l.toArray).toList (by omega) (by rw [sift_len];exact h) (by rw [sift_len];exact hl)
  rw [toL] at ih
  refine Ev.step (f := fun k => (slices_siftDownOrdered_uint64.f k l (n : Int) (hi : Int) (a : Int)).bind fun t => slices_heapSortOrdered_uint64.l0 k t (a : Int) 0 (hi : Int) ((n : Int) - 1)) (fun k => ?_) (Ev.bind hs ih)
  simp only [slices_heapSortOrdered_uint64.l0,e1,e3]
  rw [if_pos (by omega)]
theorem heap_ev (a b : Nat) (l : List Int) (hab : a < b) (hbl : b ≤ l.length) (hl : l.length < 1099511627776) :
  Ev (fun k => slices_heapSortOrdered_uint64.f k l (a : Int) (b : Int)) (heapSort ltInt l.toArray a b).toList := by
 have h := build_l0 a (b - a) (by omega) ((b - a - 1) / 2 + 1) l (by omega) (by omega) hl
 have e1 : wrap64 ((b : Int) - (a : Int)) = ((b - a : Nat) : Int) := by rw [sw64 (by omega) (by omega)];omega
 have e2 : wrap64 (Int.tdiv (wrap64 (((b - a : Nat) : Int) - 1)) 2) = (((b - a - 1) / 2 + 1 : Nat) : Int) - 1 := by
  rw [sw64 (n := ((b - a : Nat) : Int) - 1) (by omega) (by omega),Int.tdiv_eq_ediv_of_nonneg (by omega),sw64 (by omega) (by omega)];omega
 unfold slices_heapSortOrdered_uint64.f heapSort
 rw [e1,e2]
 exact h
theorem pins_l1 (a b : Nat) (hb : b < 1099511627776) (h50 : b - a < 50) : ∀ (n i : Nat) (l : List Int) (q : Int),b ≤ i + n → 1 ≤ i → i ≤ b → b ≤ l.length → a ≤ b →
  Ev (fun k => slices_partialInsertionSortOrdered_uint64.l1 k l (a : Int) (b : Int) (i : Int) q) (decide (scanSorted ltInt l.toArray b i = b),l)
 | n,i,l,q,hn,hi,hib,hbl,hab => by
  have hend : ∀ i : Nat,i ≤ b → Ev (fun k => slices_partialInsertionSortOrdered_uint64.j2 k l (a : Int) (b : Int) (i : Int) q) (decide (i = b),l) := by
   intro i hi
   refine Ev.step (fun k => ?_) (Ev.now _)
   simp only [slices_partialInsertionSortOrdered_uint64.j2]
   by_cases h : i = b
   ·rw [if_pos (by omega),decide_eq_true h]
   ·rw [if_neg (by omega),if_pos (by rw [sw64 (by omega) (by omega)];omega),decide_eq_false h]
  rw [scanSorted]
  by_cases hlt : i < b
  ·have e1 : wrap64 ((i : Int) - 1) = ((i - 1 : Nat) : Int) := by rw [sw64 (by omega) (by omega)];omega
   cases hc : ltInt l.toArray[i]! l.toArray[i - 1]! with
   | true =>
    rw [if_neg (by rw [Bool.not_true,Bool.and_false];decide)]
    refine Ev.step (fun k => ?_) (hend i hib)
    simp only [slices_partialInsertionSortOrdered_uint64.l1,e1]
    rw [if_pos (by omega),if_pos (by omega),if_pos (by omega),if_pos (by omega),if_pos (by omega),sless,srd,srd,hc,Option.bind_some,if_pos rfl]
   | false =>
    rw [if_pos (by rw [decide_eq_true hlt];rfl)]
    cases n with
    | zero => omega
    | succ n =>
     have e2 : wrap64 ((i : Int) + 1) = ((i + 1 : Nat) : Int) := by rw [sw64 (by omega) (by omega)];omega
     refine Ev.step (fun k => ?_) (pins_l1 a b hb h50 n (i + 1) l q (by omega) (by omega) (by omega) hbl hab)
     simp only [slices_partialInsertionSortOrdered_uint64.l1,e1,e2]
     rw [if_pos (by omega),if_pos (by omega),if_pos (by omega),if_pos (by omega),if_pos (by omega),sless,srd,srd,hc,Option.bind_some,if_neg (by decide)]
  ·rw [if_neg (fun h => hlt (of_decide_eq_true (Bool.and_eq_true_iff.1 h).1))]
   refine Ev.step (fun k => ?_) (hend i hib)
   simp only [slices_partialInsertionSortOrdered_uint64.l1]
   rw [if_neg (by omega)]
theorem partialIns_small (a b : Nat) (d : Array Int) (h50 : b - a < 50) : partialInsertionSort ltInt d a b = (d,decide (scanSorted ltInt d b (a + 1) = b)) := by
 unfold partialInsertionSort
 rw [partialIns]
 by_cases h : scanSorted ltInt d b (a + 1) = b
 ·rw [if_pos h,decide_eq_true h]
 ·rw [if_neg h,if_pos h50,decide_eq_false h]
theorem pins_ev (a b : Nat) (l : List Int) (hab : a < b) (hbl : b ≤ l.length) (hl : l.length < 1099511627776) (h50 : b - a < 50) :
  Ev (fun k => slices_partialInsertionSortOrdered_uint64.f k l (a : Int) (b : Int)) ((partialInsertionSort ltInt l.toArray a b).2,(partialInsertionSort ltInt l.toArray a b).1.toList) := by
 rw [partialIns_small a b _ h50]
 have e2 : wrap64 ((a : Int) + 1) = ((a + 1 : Nat) : Int) := by rw [sw64 (by omega) (by omega)];omega
 have h := pins_l1 a b (by omega) h50 b (a + 1) l 0 (by omega) (by omega) (by omega) hbl (by omega)
 unfold slices_partialInsertionSortOrdered_uint64.f
 rw [e2]
 refine Ev.step (fun k => ?_) h
 simp only [slices_partialInsertionSortOrdered_uint64.l0]
 rw [if_pos (by omega)]
theorem su_step (p : Int → Bool) (d : Array Int) (j i : Nat) (h : i ≤ j) (hp : p d[i]! = true) : scanUp p d j i = scanUp p d j (i + 1) := by
 rw [scanUp,if_pos (by rw [decide_eq_true h,hp];rfl)]
theorem su_stop (p : Int → Bool) (d : Array Int) (j i : Nat) (h : ¬ (i ≤ j ∧ p d[i]! = true)) : scanUp p d j i = i := by
 rw [scanUp,if_neg (fun hx => h ⟨of_decide_eq_true (Bool.and_eq_true_iff.1 hx).1,(Bool.and_eq_true_iff.1 hx).2⟩)]
theorem sd_step (p : Int → Bool) (d : Array Int) (i j : Nat) (h : i ≤ j + 1) (hp : p d[j + 1]! = true) : scanDown p d i (j + 1) = scanDown p d i j := by
 rw [scanDown,if_pos (by rw [decide_eq_true h,hp];rfl)]
theorem sd_stop (p : Int → Bool) (d : Array Int) (i j : Nat) (hi : 1 ≤ i) (h : ¬ (i ≤ j ∧ p d[j]! = true)) : scanDown p d i j = j := by
 cases j with
 | zero => rw [scanDown]
 | succ j => rw [scanDown,if_neg (fun hx => h ⟨of_decide_eq_true (Bool.and_eq_true_iff.1 hx).1,(Bool.and_eq_true_iff.1 hx).2⟩)]
theorem su_ge (p : Int → Bool) (d : Array Int) (j : Nat) : ∀ (n i : Nat),j + 1 ≤ i + n → i ≤ scanUp p d j i ∧ scanUp p d j i ≤ max i (j + 1)
 | 0,i,hn => by rw [su_stop p d j i (by omega)];omega
 | n + 1,i,hn => by
  by_cases h : i ≤ j ∧ p d[i]! = true
  ·rw [su_step p d j i h.1 h.2]
   have := su_ge p d j n (i + 1) (by omega)
   omega
  ·rw [su_stop p d j i h];omega
theorem sd_le (p : Int → Bool) (d : Array Int) (i : Nat) (hi : 1 ≤ i) : ∀ (j : Nat),scanDown p d i j ≤ j ∧ (i ≤ j → i - 1 ≤ scanDown p d i j)
 | 0 => by rw [sd_stop p d i 0 hi (by omega)];omega
 | j + 1 => by
  by_cases h : i ≤ j + 1 ∧ p d[j + 1]! = true
  ·rw [sd_step p d i j h.1 h.2]
   have := sd_le p d i hi j
   by_cases h2 : i ≤ j
   ·omega
   ·have h3 : scanDown p d i j = j := sd_stop p d i j hi (by omega)
    omega
  ·rw [sd_stop p d i (j + 1) hi h];omega
theorem p_less (l : List Int) (i a : Nat) : ltInt (rd l (i : Int)) (rd l (a : Int)) = ltInt l.toArray[i]! l.toArray[a]! := by rw [srd,srd]
theorem part_l1 {R : Int × Bool × List Int} (a i : Nat) (hi : 1 ≤ i) (l : List Int) (ha : a < l.length) (hl : l.length < 1099511627776) : ∀ (j : Nat),j < l.length →
  Ev (fun k => slices_partitionOrdered_uint64.j3 k l (a : Int) (i : Int) ((scanDown (fun x => !ltInt x l.toArray[a]!) l.toArray i j : Nat) : Int)) R →
  Ev (fun k => slices_partitionOrdered_uint64.l1 k l (a : Int) (i : Int) (j : Int)) R
 | j,hj,h => by
  by_cases hc : i ≤ j ∧ (!ltInt l.toArray[j]! l.toArray[a]!) = true
  ·obtain ⟨j,rfl⟩ : ∃ j',j = j' + 1 := ⟨j - 1,by omega⟩
   rw [sd_step _ _ _ _ hc.1 hc.2] at h
   have e1 : wrap64 (((j + 1 : Nat) : Int) - 1) = (j : Int) := by rw [sw64 (by omega) (by omega)];omega
   refine Ev.step (fun k => ?_) (part_l1 a i hi l ha hl j (by omega) h)
   simp only [slices_partitionOrdered_uint64.l1]
   rw [if_pos (by omega),if_pos (by omega),if_pos (by omega),if_pos (by omega),if_pos (by omega),sless,p_less,show ltInt l.toArray[j + 1]! l.toArray[a]! = false from by simpa using hc.2,Option.bind_some,if_neg (by decide),e1]
  ·rw [sd_stop _ _ _ _ hi hc] at h
   refine Ev.step (fun k => ?_) h
   simp only [slices_partitionOrdered_uint64.l1]
   by_cases hij : i ≤ j
   ·have hb : ltInt l.toArray[j]! l.toArray[a]! = true := by
     cases hb : ltInt l.toArray[j]! l.toArray[a]! with
     | true => rfl
     | false => exact absurd ⟨hij,by rw [hb];rfl⟩ hc
    rw [if_pos (by omega),if_pos (by omega),if_pos (by omega),if_pos (by omega),if_pos (by omega),sless,p_less,hb,Option.bind_some,if_pos rfl]
   ·rw [if_neg (by omega)]
theorem part_l0 {R : Int × Bool × List Int} (a j : Nat) (l : List Int) (ha : a < l.length) (hj : j < l.length) (hl : l.length < 1099511627776) : ∀ (n i : Nat),j + 1 ≤ i + n → 1 ≤ i →
  Ev (fun k => slices_partitionOrdered_uint64.j3 k l (a : Int) ((scanUp (fun x => ltInt x l.toArray[a]!) l.toArray j i : Nat) : Int) ((scanDown (fun x => !ltInt x l.toArray[a]!) l.toArray (scanUp (fun x => ltInt x l.toArray[a]!) l.toArray j i) j : Nat) : Int)) R →
  Ev (fun k => slices_partitionOrdered_uint64.l0 k l (a : Int) (i : Int) (j : Int)) R
 | n,i,hn,hi,h => by
  by_cases hc : i ≤ j ∧ ltInt l.toArray[i]! l.toArray[a]! = true
  ·cases n with
   | zero => omega
   | succ n =>
    rw [su_step _ _ _ _ hc.1 hc.2] at h
    have e1 : wrap64 ((i : Int) + 1) = ((i + 1 : Nat) : Int) := by rw [sw64 (by omega) (by omega)];omega
    refine Ev.step (fun k => ?_) (part_l0 a j l ha hj hl n (i + 1) (by omega) (by omega) h)
    simp only [slices_partitionOrdered_uint64.l0]
    rw [if_pos (by omega),if_pos (by omega),if_pos (by omega),if_pos (by omega),if_pos (by omega),sless,p_less,hc.2,Option.bind_some,if_pos rfl,e1]
  ·rw [su_stop _ _ _ _ hc] at h
   have h1 := part_l1 a i hi l ha hl j hj h
   have h2 : Ev (fun k => slices_partitionOrdered_uint64.j1 k l (a : Int) (i : Int) (j : Int)) R := Ev.step (fun k => by simp only [slices_partitionOrdered_uint64.j1]) h1
   refine Ev.step (fun k => ?_) h2
   simp only [slices_partitionOrdered_uint64.l0]
   by_cases hij : i ≤ j
   ·have hb : ltInt l.toArray[i]! l.toArray[a]! = false := by
     cases hb : ltInt l.toArray[i]! l.toArray[a]! with
     | false => rfl
     | true => exact absurd ⟨hij,hb⟩ hc
    rw [if_pos (by omega),if_pos (by omega),if_pos (by omega),if_pos (by omega),if_pos (by omega),sless,p_less,hb,Option.bind_some,if_neg (by decide)]
   ·rw [if_neg (by omega)]
def partEnd (k : Nat) (l : List Int) (a i j : Int) : Option (Int × Bool × List Int) :=
 if i > j then (if 0 ≤ a then (if a < (l.length : Int) then (if 0 ≤ j then (if j < (l.length : Int) then (some (j,false,((l.set (j : Int).toNat (rd l a)).set (a : Int).toNat (rd l j)))) else (none)) else (none)) else (none)) else (none))
 else (if 0 ≤ j then (if j < (l.length : Int) then (if 0 ≤ i then (if i < (l.length : Int) then (slices_partitionOrdered_uint64.l2 k ((l.set (i : Int).toNat (rd l j)).set (j : Int).toNat (rd l i)) a (wrap64 (i + 1)) (wrap64 (j - 1))) else (none)) else (none)) else (none)) else (none))
theorem part_l4 {R : Int × Bool × List Int} (a i : Nat) (hi : 1 ≤ i) (l : List Int) (ha : a < l.length) (hl : l.length < 1099511627776) : ∀ (j : Nat),j < l.length →
  Ev (fun k => partEnd k l (a : Int) (i : Int) ((scanDown (fun x => !ltInt x l.toArray[a]!) l.toArray i j : Nat) : Int)) R →
  Ev (fun k => slices_partitionOrdered_uint64.l4 k l (a : Int) (i : Int) (j : Int)) R
 | j,hj,h => by
  by_cases hc : i ≤ j ∧ (!ltInt l.toArray[j]! l.toArray[a]!) = true
  ·obtain ⟨j,rfl⟩ : ∃ j',j = j' + 1 := ⟨j - 1,by omega⟩
   rw [sd_step _ _ _ _ hc.1 hc.2] at h
   have e1 : wrap64 (((j + 1 : Nat) : Int) - 1) = (j : Int) := by rw [sw64 (by omega) (by omega)];omega
   refine Ev.step (fun k => ?_) (part_l4 a i hi l ha hl j (by omega) h)
   simp only [slices_partitionOrdered_uint64.l4]
   rw [if_pos (by omega),if_pos (by omega),if_pos (by omega),if_pos (by omega),if_pos (by omega),sless,p_less,show ltInt l.toArray[j + 1]! l.toArray[a]! = false from by simpa using hc.2,Option.bind_some,if_neg (by decide),e1]
  ·rw [sd_stop _ _ _ _ hi hc] at h
   refine Ev.step (fun k => ?_) h
   simp only [slices_partitionOrdered_uint64.l4]
   unfold partEnd
   by_cases hij : i ≤ j
   ·have hb : ltInt l.toArray[j]! l.toArray[a]! = true := by
     cases hb : ltInt l.toArray[j]! l.toArray[a]! with
     | true => rfl
     | false => exact absurd ⟨hij,by rw [hb];rfl⟩ hc
    rw [if_pos (by omega),if_pos (by omega),if_pos (by omega),if_pos (by omega),if_pos (by omega),sless,p_less,hb,Option.bind_some,if_pos rfl]
    have g1 : ¬ ((i : Int) > (j : Int)) := by omega
    have g2 : (0 : Int) ≤ (j : Int) := by omega
    have g3 : (j : Int) < (l.length : Int) := by omega
    simp only [if_neg g1,if_pos g2,if_pos g3]
   ·rw [if_neg (by omega)]
theorem part_l3 {R : Int × Bool × List Int} (a j : Nat) (l : List Int) (ha : a < l.length) (hj : j < l.length) (hl : l.length < 1099511627776) : ∀ (n i : Nat),j + 1 ≤ i + n → 1 ≤ i →
  Ev (fun k => partEnd k l (a : Int) ((scanUp (fun x => ltInt x l.toArray[a]!) l.toArray j i : Nat) : Int) ((scanDown (fun x => !ltInt x l.toArray[a]!) l.toArray (scanUp (fun x => ltInt x l.toArray[a]!) l.toArray j i) j : Nat) : Int)) R →
  Ev (fun k => slices_partitionOrdered_uint64.l3 k l (a : Int) (i : Int) (j : Int)) R
 | n,i,hn,hi,h => by
  by_cases hc : i ≤ j ∧ ltInt l.toArray[i]! l.toArray[a]! = true
  ·cases n with
   | zero => omega
   | succ n =>
    rw [su_step _ _ _ _ hc.1 hc.2] at h
    have e1 : wrap64 ((i : Int) + 1) = ((i + 1 : Nat) : Int) := by rw [sw64 (by omega) (by omega)];omega
    refine Ev.step (fun k => ?_) (part_l3 a j l ha hj hl n (i + 1) (by omega) (by omega) h)
    simp only [slices_partitionOrdered_uint64.l3]
    rw [if_pos (by omega),if_pos (by omega),if_pos (by omega),if_pos (by omega),if_pos (by omega),sless,p_less,hc.2,Option.bind_some,if_pos rfl,e1]
  ·rw [su_stop _ _ _ _ hc] at h
   have h1 := part_l4 a i hi l ha hl j hj h
   have h2 : Ev (fun k => slices_partitionOrdered_uint64.j6 k l (a : Int) (i : Int) (j : Int)) R := Ev.step (fun k => by simp only [slices_partitionOrdered_uint64.j6]) h1
   refine Ev.step (fun k => ?_) h2
   simp only [slices_partitionOrdered_uint64.l3]
   by_cases hij : i ≤ j
   ·have hb : ltInt l.toArray[i]! l.toArray[a]! = false := by
     cases hb : ltInt l.toArray[i]! l.toArray[a]! with
     | false => rfl
     | true => exact absurd ⟨hij,hb⟩ hc
    rw [if_pos (by omega),if_pos (by omega),if_pos (by omega),if_pos (by omega),if_pos (by omega),sless,p_less,hb,Option.bind_some,if_neg (by decide)]
   ·rw [if_neg (by omega)]
theorem w_succ {n : Nat} (h : n < 1099511627776) : wrap64 ((n : Int) + 1) = ((n + 1 : Nat) : Int) := by rw [sw64 (by omega) (by omega)];omega
theorem w_pred {n : Nat} (h : n < 1099511627776) (h1 : 1 ≤ n) : wrap64 ((n : Int) - 1) = ((n - 1 : Nat) : Int) := by rw [sw64 (by omega) (by omega)];omega
theorem part_end {X : Int × Bool × List Int} (a i2 j2 : Nat) (l : List Int) (ha : a < l.length) (hj : j2 < l.length) (hi : 1 ≤ i2) (hl : l.length < 1099511627776)
  (hrec : ¬ i2 > j2 → Ev (fun k => slices_partitionOrdered_uint64.l2 k ((l.set i2 (rd l (j2 : Int))).set j2 (rd l (i2 : Int))) (a : Int) ((i2 + 1 : Nat) : Int) ((j2 - 1 : Nat) : Int)) X) :
  Ev (fun k => partEnd k l (a : Int) (i2 : Int) (j2 : Int)) (if i2 > j2 then ((j2 : Int),false,(swp l.toArray j2 a).toList) else X) := by
 by_cases hgt : i2 > j2
 ·rw [if_pos hgt]
  refine (Ev.now _).congr (fun k => ?_)
  unfold partEnd
  rw [if_pos (by omega),if_pos (by omega),if_pos (by omega),if_pos (by omega),if_pos (by omega),tl_swp,Int.toNat_natCast,Int.toNat_natCast]
 ·rw [if_neg hgt]
  refine (hrec hgt).congr (fun k => ?_)
  unfold partEnd
  rw [if_neg (by omega),if_pos (by omega),if_pos (by omega),if_pos (by omega),if_pos (by omega),w_succ (by omega),w_pred (by omega) (by omega),Int.toNat_natCast,Int.toNat_natCast]
theorem partLoop_eq (a i j i2 j2 : Nat) (d : Array Int) (h2 : i2 = scanUp (fun x => ltInt x d[a]!) d j i) (h3 : j2 = scanDown (fun x => !ltInt x d[a]!) d i2 j) (hi : 1 ≤ i) :
  partLoop ltInt a i j d = if i2 > j2 then (j2,d) else partLoop ltInt a (i2 + 1) (j2 - 1) (swp d i2 j2) := by
 have b1 := (su_ge (fun x => ltInt x d[a]!) d j (j + 1) i (by omega)).1
 have b2 := (sd_le (fun x => !ltInt x d[a]!) d i2 (by rw [h2];exact Nat.le_trans hi b1) j).1
 rw [← h2] at b1
 rw [← h3] at b2
 rw [partLoop]
 simp only [← h2,← h3]
 clear h2 h3
 by_cases hgt : i2 > j2
 ·rw [if_pos hgt,if_pos hgt]
 ·rw [if_neg hgt,if_neg hgt,dif_pos (by omega)]
theorem part_l2 (a : Nat) : ∀ (n i j : Nat) (l : List Int),j + 1 ≤ i + n → 1 ≤ i → a < l.length → j < l.length → l.length < 1099511627776 →
  Ev (fun k => slices_partitionOrdered_uint64.l2 k l (a : Int) (i : Int) (j : Int)) (((partLoop ltInt a i j l.toArray).1 : Int),false,(swp (partLoop ltInt a i j l.toArray).2 (partLoop ltInt a i j l.toArray).1 a).toList) := by
 intro n
 induction n with
 | zero =>
  intro i j l hn hi ha hj hl
  have h1 : scanUp (fun x => ltInt x l.toArray[a]!) l.toArray j i = i := su_stop _ _ _ _ (by omega)
  have h2 : scanDown (fun x => !ltInt x l.toArray[a]!) l.toArray i j = j := sd_stop _ _ _ _ hi (by omega)
  rw [partLoop_eq a i j i j _ h1.symm h2.symm hi,if_pos (by omega)]
  have he := part_end (X := ((j : Int),false,(swp l.toArray j a).toList)) a i j l ha hj hi hl (fun h => absurd h (by omega))
  rw [if_pos (by omega)] at he
  have h3 := part_l3 (R := ((j : Int),false,(swp l.toArray j a).toList)) a j l ha hj hl (j + 1) i (by omega) hi (by rw [h1,h2];exact he)
  exact Ev.step (fun k => by simp only [slices_partitionOrdered_uint64.l2]) h3
 | succ n ih =>
  intro i j l hn hi ha hj hl
  obtain ⟨i2,hi2⟩ : ∃ x,x = scanUp (fun x => ltInt x l.toArray[a]!) l.toArray j i := ⟨_,rfl⟩
  obtain ⟨j2,hj2⟩ : ∃ x,x = scanDown (fun x => !ltInt x l.toArray[a]!) l.toArray i2 j := ⟨_,rfl⟩
  have b1 := (su_ge (fun x => ltInt x l.toArray[a]!) l.toArray j (j + 1) i (by omega)).1
  rw [← hi2] at b1
  have b2 := (sd_le (fun x => !ltInt x l.toArray[a]!) l.toArray i2 (Nat.le_trans hi b1) j).1
  rw [← hj2] at b2
  have hp := partLoop_eq a i j i2 j2 _ hi2 hj2 hi
  have hS : ∀ R,Ev (fun k => partEnd k l (a : Int) (i2 : Int) (j2 : Int)) R → Ev (fun k => slices_partitionOrdered_uint64.l3 k l (a : Int) (i : Int) (j : Int)) R := fun R h => by
   rw [hi2,hj2,hi2] at h
   exact part_l3 a j l ha hj hl (j + 1) i (by clear hi2 hj2 h hp;omega) hi h
  clear hi2 hj2
  rw [hp]
  clear hp
  refine Ev.step (fun k => by simp only [slices_partitionOrdered_uint64.l2]) (hS _ ?_)
  have hl' := slen l i2 j2 (rd l (j2 : Int)) (rd l (i2 : Int))
  have he := part_end a i2 j2 l ha (by omega) (by omega) hl (fun hgt => ih (i2 + 1) (j2 - 1) ((l.set i2 (rd l (j2 : Int))).set j2 (rd l (i2 : Int))) (by omega) (by omega) (by omega) (by omega) (by omega))
  rw [sswp] at he
  by_cases hgt : i2 > j2
  ·rw [if_pos hgt] at he ⊢;exact he
  ·rw [if_neg hgt] at he ⊢;exact he
theorem part_j3 {X : Int × Bool × List Int} (a i2 j2 : Nat) (l : List Int) (ha : a < l.length) (hj : j2 < l.length) (hi : 1 ≤ i2) (hl : l.length < 1099511627776)
  (hrec : ¬ i2 > j2 → Ev (fun k => slices_partitionOrdered_uint64.l2 k ((l.set i2 (rd l (j2 : Int))).set j2 (rd l (i2 : Int))) (a : Int) ((i2 + 1 : Nat) : Int) ((j2 - 1 : Nat) : Int)) X) :
  Ev (fun k => slices_partitionOrdered_uint64.j3 k l (a : Int) (i2 : Int) (j2 : Int)) (if i2 > j2 then ((j2 : Int),true,(swp l.toArray j2 a).toList) else X) := by
 by_cases hgt : i2 > j2
 ·rw [if_pos hgt]
  refine Ev.step (fun k => ?_) (Ev.now _)
  simp only [slices_partitionOrdered_uint64.j3]
  rw [if_pos (by omega),if_pos (by omega),if_pos (by omega),if_pos (by omega),if_pos (by omega),tl_swp,Int.toNat_natCast,Int.toNat_natCast]
 ·rw [if_neg hgt]
  refine Ev.step (fun k => ?_) (hrec hgt)
  simp only [slices_partitionOrdered_uint64.j3]
  rw [if_neg (by omega),if_pos (by omega),if_pos (by omega),if_pos (by omega),if_pos (by omega),w_succ (by omega),w_pred (by omega) (by omega),Int.toNat_natCast,Int.toNat_natCast]
theorem partition_eq (a b pv i2 j2 : Nat) (d m : Array Int) (hm : m = swp d a pv) (h2 : i2 = scanUp (fun x => ltInt x m[a]!) m (b - 1) (a + 1)) (h3 : j2 = scanDown (fun x => !ltInt x m[a]!) m i2 (b - 1)) :
  Go.Sort.partition ltInt d a b pv = if i2 > j2 then (j2,true,swp m j2 a) else ((partLoop ltInt a (i2 + 1) (j2 - 1) (swp m i2 j2)).1,false,swp (partLoop ltInt a (i2 + 1) (j2 - 1) (swp m i2 j2)).2 (partLoop ltInt a (i2 + 1) (j2 - 1) (swp m i2 j2)).1 a) := by
 unfold Go.Sort.partition
 simp only [← hm,← h2,← h3]
theorem part_ev (a b pv : Nat) (l : List Int) (hab : a + 1 < b) (hp1 : a ≤ pv) (hp2 : pv < b) (hbl : b ≤ l.length) (hl : l.length < 1099511627776) :
  Ev (fun k => slices_partitionOrdered_uint64.f k l (a : Int) (b : Int) (pv : Int)) (((Go.Sort.partition ltInt l.toArray a b pv).1 : Int),(Go.Sort.partition ltInt l.toArray a b pv).2.1,(Go.Sort.partition ltInt l.toArray a b pv).2.2.toList) := by
 obtain ⟨m,hm⟩ : ∃ m,m = (l.set a (rd l (pv : Int))).set pv (rd l (a : Int)) := ⟨_,rfl⟩
 have hml : m.length = l.length := by rw [hm,slen]
 have hma : m.toArray = swp l.toArray a pv := by rw [hm,sswp]
 have hstart : ∀ R,Ev (fun k => slices_partitionOrdered_uint64.l0 k m (a : Int) ((a + 1 : Nat) : Int) ((b - 1 : Nat) : Int)) R → Ev (fun k => slices_partitionOrdered_uint64.f k l (a : Int) (b : Int) (pv : Int)) R := fun R h => by
  refine h.congr (fun k => ?_)
  unfold slices_partitionOrdered_uint64.f
  rw [if_pos (by omega),if_pos (by omega),if_pos (by omega),if_pos (by omega),w_succ (by omega),w_pred (by omega) (by omega),hm,Int.toNat_natCast,Int.toNat_natCast]
 clear hm
 obtain ⟨i2,hi2⟩ : ∃ x,x = scanUp (fun x => ltInt x m.toArray[a]!) m.toArray (b - 1) (a + 1) := ⟨_,rfl⟩
 obtain ⟨j2,hj2⟩ : ∃ x,x = scanDown (fun x => !ltInt x m.toArray[a]!) m.toArray i2 (b - 1) := ⟨_,rfl⟩
 have b1 := (su_ge (fun x => ltInt x m.toArray[a]!) m.toArray (b - 1) b (a + 1) (by omega)).1
 rw [← hi2] at b1
 have b2 := (sd_le (fun x => !ltInt x m.toArray[a]!) m.toArray i2 (Nat.le_trans (Nat.le_add_left 1 a) b1) (b - 1)).1
 rw [← hj2] at b2
 have hp := partition_eq a b pv i2 j2 l.toArray m.toArray hma hi2 hj2
 have hS : ∀ R,Ev (fun k => slices_partitionOrdered_uint64.j3 k m (a : Int) (i2 : Int) (j2 : Int)) R → Ev (fun k => slices_partitionOrdered_uint64.l0 k m (a : Int) ((a + 1 : Nat) : Int) ((b - 1 : Nat) : Int)) R := fun R h => by
  rw [hi2,hj2,hi2] at h
  exact part_l0 a (b - 1) m (by clear hi2 hj2 h hp;omega) (by clear hi2 hj2 h hp;omega) (by clear hi2 hj2 h hp;omega) b (a + 1) (by clear hi2 hj2 h hp;omega) (by clear hi2 hj2 h hp;omega) h
 clear hi2 hj2 hma
 rw [hp]
 clear hp
 refine hstart _ (hS _ ?_)
 clear hstart hS
 have hl' := slen m i2 j2 (rd m (j2 : Int)) (rd m (i2 : Int))
 have he := part_j3 a i2 j2 m (by omega) (by omega) (by omega) (by omega) (fun hgt => part_l2 a b (i2 + 1) (j2 - 1) ((m.set i2 (rd m (j2 : Int))).set j2 (rd m (i2 : Int))) (by omega) (by omega) (by omega) (by omega) (by omega))
 rw [sswp] at he
 by_cases hgt : i2 > j2
 ·rw [if_pos hgt] at he ⊢;exact he
 ·rw [if_neg hgt] at he ⊢;exact he
def peqEnd (k : Nat) (l : List Int) (a i j : Int) : Option (Int × List Int) :=
 if i > j then (some (i,l)) else (if 0 ≤ j then (if j < (l.length : Int) then (if 0 ≤ i then (if i < (l.length : Int) then (slices_partitionEqualOrdered_uint64.l0 k ((l.set (i : Int).toNat (rd l j)).set (j : Int).toNat (rd l i)) a (wrap64 (i + 1)) (wrap64 (j - 1))) else (none)) else (none)) else (none)) else (none))
theorem peq_l2 {R : Int × List Int} (a i : Nat) (hi : 1 ≤ i) (l : List Int) (ha : a < l.length) (hl : l.length < 1099511627776) : ∀ (j : Nat),j < l.length →
  Ev (fun k => peqEnd k l (a : Int) (i : Int) ((scanDown (fun x => ltInt l.toArray[a]! x) l.toArray i j : Nat) : Int)) R →
  Ev (fun k => slices_partitionEqualOrdered_uint64.l2 k l (a : Int) (i : Int) (j : Int)) R
 | j,hj,h => by
  by_cases hc : i ≤ j ∧ ltInt l.toArray[a]! l.toArray[j]! = true
  ·obtain ⟨j,rfl⟩ : ∃ j',j = j' + 1 := ⟨j - 1,by omega⟩
   rw [sd_step _ _ _ _ hc.1 hc.2] at h
   have e1 : wrap64 (((j + 1 : Nat) : Int) - 1) = (j : Int) := by rw [sw64 (by omega) (by omega)];omega
   refine Ev.step (fun k => ?_) (peq_l2 a i hi l ha hl j (by omega) h)
   simp only [slices_partitionEqualOrdered_uint64.l2]
   rw [if_pos (by omega),if_pos (by omega),if_pos (by omega),if_pos (by omega),if_pos (by omega),sless,p_less,hc.2,Option.bind_some,if_pos rfl,e1]
  ·rw [sd_stop _ _ _ _ hi hc] at h
   refine Ev.step (fun k => ?_) h
   simp only [slices_partitionEqualOrdered_uint64.l2]
   unfold peqEnd
   by_cases hij : i ≤ j
   ·have hb : ltInt l.toArray[a]! l.toArray[j]! = false := by
     cases hb : ltInt l.toArray[a]! l.toArray[j]! with
     | false => rfl
     | true => exact absurd ⟨hij,hb⟩ hc
    rw [if_pos (by omega),if_pos (by omega),if_pos (by omega),if_pos (by omega),if_pos (by omega),sless,p_less,hb,Option.bind_some,if_neg (by decide)]
    have g1 : ¬ ((i : Int) > (j : Int)) := by omega
    have g2 : (0 : Int) ≤ (j : Int) := by omega
    have g3 : (j : Int) < (l.length : Int) := by omega
    simp only [if_neg g1,if_pos g2,if_pos g3]
   ·rw [if_neg (by omega)]
theorem peq_l1 {R : Int × List Int} (a j : Nat) (l : List Int) (ha : a < l.length) (hj : j < l.length) (hl : l.length < 1099511627776) : ∀ (n i : Nat),j + 1 ≤ i + n → 1 ≤ i →
  Ev (fun k => peqEnd k l (a : Int) ((scanUp (fun x => !ltInt l.toArray[a]! x) l.toArray j i : Nat) : Int) ((scanDown (fun x => ltInt l.toArray[a]! x) l.toArray (scanUp (fun x => !ltInt l.toArray[a]! x) l.toArray j i) j : Nat) : Int)) R →
  Ev (fun k => slices_partitionEqualOrdered_uint64.l1 k l (a : Int) (i : Int) (j : Int)) R
 | n,i,hn,hi,h => by
  by_cases hc : i ≤ j ∧ (!ltInt l.toArray[a]! l.toArray[i]!) = true
  ·cases n with
   | zero => omega
   | succ n =>
    rw [su_step _ _ _ _ hc.1 hc.2] at h
    have e1 : wrap64 ((i : Int) + 1) = ((i + 1 : Nat) : Int) := by rw [sw64 (by omega) (by omega)];omega
    refine Ev.step (fun k => ?_) (peq_l1 a j l ha hj hl n (i + 1) (by omega) (by omega) h)
    simp only [slices_partitionEqualOrdered_uint64.l1]
    rw [if_pos (by omega),if_pos (by omega),if_pos (by omega),if_pos (by omega),if_pos (by omega),sless,p_less,show ltInt l.toArray[a]! l.toArray[i]! = false from by simpa using hc.2,Option.bind_some,if_neg (by decide),e1]
  ·rw [su_stop _ _ _ _ hc] at h
   have h1 := peq_l2 a i hi l ha hl j hj h
   have h2 : Ev (fun k => slices_partitionEqualOrdered_uint64.j2 k l (a : Int) (i : Int) (j : Int)) R := Ev.step (fun k => by simp only [slices_partitionEqualOrdered_uint64.j2]) h1
   refine Ev.step (fun k => ?_) h2
   simp only [slices_partitionEqualOrdered_uint64.l1]
   by_cases hij : i ≤ j
   ·have hb : ltInt l.toArray[a]! l.toArray[i]! = true := by
     cases hb : ltInt l.toArray[a]! l.toArray[i]! with
     | true => rfl
     | false => exact absurd ⟨hij,by rw [hb];rfl⟩ hc
    rw [if_pos (by omega),if_pos (by omega),if_pos (by omega),if_pos (by omega),if_pos (by omega),sless,p_less,hb,Option.bind_some,if_pos rfl]
   ·rw [if_neg (by omega)]
theorem peq_end {X : Int × List Int} (a i2 j2 : Nat) (l : List Int) (ha : a < l.length) (hj : j2 < l.length) (hi : 1 ≤ i2) (hl : l.length < 1099511627776)
  (hrec : ¬ i2 > j2 → Ev (fun k => slices_partitionEqualOrdered_uint64.l0 k ((l.set i2 (rd l (j2 : Int))).set j2 (rd l (i2 : Int))) (a : Int) ((i2 + 1 : Nat) : Int) ((j2 - 1 : Nat) : Int)) X) :
  Ev (fun k => peqEnd k l (a : Int) (i2 : Int) (j2 : Int)) (if i2 > j2 then ((i2 : Int),l) else X) := by
 by_cases hgt : i2 > j2
 ·rw [if_pos hgt]
  refine (Ev.now _).congr (fun k => ?_)
  unfold peqEnd
  rw [if_pos (by omega)]
 ·rw [if_neg hgt]
  refine (hrec hgt).congr (fun k => ?_)
  unfold peqEnd
  rw [if_neg (by omega),if_pos (by omega),if_pos (by omega),if_pos (by omega),if_pos (by omega),w_succ (by omega),w_pred (by omega) (by omega),Int.toNat_natCast,Int.toNat_natCast]
theorem partEqLoop_eq (a i j i2 j2 : Nat) (d : Array Int) (h2 : i2 = scanUp (fun x => !ltInt d[a]! x) d j i) (h3 : j2 = scanDown (fun x => ltInt d[a]! x) d i2 j) (hi : 1 ≤ i) :
  partEqLoop ltInt a i j d = if i2 > j2 then (i2,d) else partEqLoop ltInt a (i2 + 1) (j2 - 1) (swp d i2 j2) := by
 have b1 := (su_ge (fun x => !ltInt d[a]! x) d j (j + 1) i (by omega)).1
 have b2 := (sd_le (fun x => ltInt d[a]! x) d i2 (by rw [h2];exact Nat.le_trans hi b1) j).1
 rw [← h2] at b1
 rw [← h3] at b2
 rw [partEqLoop]
 simp only [← h2,← h3]
 clear h2 h3
 by_cases hgt : i2 > j2
 ·rw [if_pos hgt,if_pos hgt]
 ·rw [if_neg hgt,if_neg hgt,dif_pos (by omega)]
theorem peq_l0 (a : Nat) : ∀ (n i j : Nat) (l : List Int),j + 1 ≤ i + n → 1 ≤ i → a < l.length → j < l.length → l.length < 1099511627776 →
  Ev (fun k => slices_partitionEqualOrdered_uint64.l0 k l (a : Int) (i : Int) (j : Int)) (((partEqLoop ltInt a i j l.toArray).1 : Int),(partEqLoop ltInt a i j l.toArray).2.toList) := by
 intro n
 induction n with
 | zero =>
  intro i j l hn hi ha hj hl
  have h1 : scanUp (fun x => !ltInt l.toArray[a]! x) l.toArray j i = i := su_stop _ _ _ _ (by omega)
  have h2 : scanDown (fun x => ltInt l.toArray[a]! x) l.toArray i j = j := sd_stop _ _ _ _ hi (by omega)
  rw [partEqLoop_eq a i j i j _ h1.symm h2.symm hi,if_pos (by omega)]
  have he := peq_end (X := ((i : Int),l)) a i j l ha hj hi hl (fun h => absurd h (by omega))
  rw [if_pos (by omega)] at he
  have h3 := peq_l1 (R := ((i : Int),l)) a j l ha hj hl (j + 1) i (by omega) hi (by rw [h1,h2];exact he)
  exact Ev.step (fun k => by simp only [slices_partitionEqualOrdered_uint64.l0]) h3
 | succ n ih =>
  intro i j l hn hi ha hj hl
  obtain ⟨i2,hi2⟩ : ∃ x,x = scanUp (fun x => !ltInt l.toArray[a]! x) l.toArray j i := ⟨_,rfl⟩
  obtain ⟨j2,hj2⟩ : ∃ x,x = scanDown (fun x => ltInt l.toArray[a]! x) l.toArray i2 j := ⟨_,rfl⟩
  have b1 := (su_ge (fun x => !ltInt l.toArray[a]! x) l.toArray j (j + 1) i (by omega)).1
  rw [← hi2] at b1
  have b2 := (sd_le (fun x => ltInt l.toArray[a]! x) l.toArray i2 (Nat.le_trans hi b1) j).1
  rw [← hj2] at b2
  have hp := partEqLoop_eq a i j i2 j2 _ hi2 hj2 hi
  have hS : ∀ R,Ev (fun k => peqEnd k l (a : Int) (i2 : Int) (j2 : Int)) R → Ev (fun k => slices_partitionEqualOrdered_uint64.l1 k l (a : Int) (i : Int) (j : Int)) R := fun R h => by
   rw [hi2,hj2,hi2] at h
   exact peq_l1 a j l ha hj hl (j + 1) i (by clear hi2 hj2 h hp;omega) hi h
  clear hi2 hj2
  rw [hp]
  clear hp
  refine Ev.step (fun k => by simp only [slices_partitionEqualOrdered_uint64.l0]) (hS _ ?_)
  have hl' := slen l i2 j2 (rd l (j2 : Int)) (rd l (i2 : Int))
  have he := peq_end a i2 j2 l ha (by omega) (by omega) hl (fun hgt => ih (i2 + 1) (j2 - 1) ((l.set i2 (rd l (j2 : Int))).set j2 (rd l (i2 : Int))) (by omega) (by omega) (by omega) (by omega) (by omega))
  rw [sswp] at he
  by_cases hgt : i2 > j2
  ·rw [if_pos hgt] at he ⊢;exact he
  ·rw [if_neg hgt] at he ⊢;exact he
theorem peq_ev (a b pv : Nat) (l : List Int) (hab : a + 1 < b) (hp1 : a ≤ pv) (hp2 : pv < b) (hbl : b ≤ l.length) (hl : l.length < 1099511627776) :
  Ev (fun k => slices_partitionEqualOrdered_uint64.f k l (a : Int) (b : Int) (pv : Int)) (((partitionEqual ltInt l.toArray a b pv).1 : Int),(partitionEqual ltInt l.toArray a b pv).2.toList) := by
 have h := peq_l0 a b (a + 1) (b - 1) ((l.set a (rd l (pv : Int))).set pv (rd l (a : Int))) (by omega) (by omega) (by rw [slen];omega) (by rw [slen];omega) (by rw [slen];exact hl)
 rw [sswp] at h
 refine h.congr (fun k => ?_)
 unfold slices_partitionEqualOrdered_uint64.f
 rw [if_pos (by omega),if_pos (by omega),if_pos (by omega),if_pos (by omega),w_succ (by omega),w_pred (by omega) (by omega),Int.toNat_natCast,Int.toNat_natCast]
end
end Go.Proofs.Ytmdoaijkaaaglaa.Srt
end
section
namespace Go.Proofs.Ytmdoaijkaaaglaa.Hw
open Go.RowKit Go.Proofs.Ytmdoaijkaaaglaa.Pr Go.Proofs.YtmdoaijkaaaglaaW.PrintWords Go.Proofs.YtmdoaijkaaaglaaW.PrintLast Go.Proofs.YtmdoaijkaaaglaaW.PrintMore Go.Proofs.Ytmdoaijkaaaglaa.E
theorem wrapI_id {n : Int} (h0 : -9223372036854775808 ≤ n) (h1 : n < 9223372036854775808) : IntKind.i64.wrap n = n := by rw [IntKind.wrap_i64];omega
theorem C_none {k : IntKind} {w : World} {xs : List Int} (h : Kd.C (Kd.int k) w none xs.length xs) : xs = [] := by
 rcases xs with _|⟨x,xs⟩
 ·rfl
 ·obtain ⟨ad,e,_⟩ := Kd.at_int h 0 (by omega) (by simp)
  cases e
set_option maxHeartbeats 1000000 in
set_option maxRecDepth 100000 in
theorem clone_u64 (A : Option Addr) (c : Nat) (l : List Int) (w : World) (hr : Kd.C (Kd.int .u64) w A l.length l) (hc : l.length ≤ c) (hl : l.length ≤ 1099511627776) :
  Calls Try.prog 76 #[.slice A l.length c] w fun e w' => ∃ v0_ : Value,e = .returned (v0_) ∧ Kd.R (Kd.int .u64) 22 w' w.heap.size (fun _ => True) v0_ l ∧ Below w.heap.size w w' := by
 have HR := Aside0.mk hr
 clear hr
 rcases A with _|a
 ·obtain rfl := C_none HR.out
  have heq : ∀ W : World,(binOp .eql 40 (.slice none 0 c) (.slice none 0 0)).run Try.prog W = .ok (.bool true) W := fun W => Lib.run_eql_slice_nil W 40 22 none 0 c 0 0 Try.underlying40
  go_enter Try.func76,Try.ntmps76
  go_wp2
  go_ret
  exact ⟨_,rfl,Kd.R_nil _ _ _ _ _,Below.refl _ _⟩
 ·have heq : ∀ W : World,(binOp .eql 40 (.slice (some a) l.length c) (.slice none 0 0)).run Try.prog W = .ok (.bool false) W := fun W => Lib.run_eql_slice_nil W 40 22 (some a) l.length c 0 0 Try.underlying40
  go_enter Try.func76,Try.ntmps76
  go_wp2_with (first
   | ((with_reducible refine gate_dst (N := 5) rfl ?_);refine Kd.R_lit (Kd.int .u64) _ 22 ?hg (N := 5) ?hd (xs := ([] : List Int)) (inner := []) (ok := fun _ => True) (okp := fun _ => True) ?hr ?hp (fun _ hk => hk) trivial (Below.refl _ _) (Nat.le_refl _) (by simp) ?_;(case hd => rfl);(case hg => rfl);(case hr => first|(go_simp;done)|(go_simp;rfl));(case hp => exact (Reps.none _ _));intro v1 w1 ho1 hb1 hg1 hn1;clear hg1 hn1;have HO1 := Aside0.mk ho1;have HB1 := Aside0.mk hb1;clear ho1 hb1)
   | ((with_reducible refine gate_builtin (b := .append) (xs := #[.tmp 5,.tmp 6]) rfl ?_);at_builtin;refine Kd.R_append_rows (Kd.int .u64) (w0 := w) w.heap.size rfl (.tmp 5) (.tmp 6) 40 22 (.int .u64 0) 8 rfl Try.underlying40 info22 rfl (by decide) (by omega) v1 [] l _ _ _ (fun _ => True) (fun _ => False) rfl rfl HO1.out (Kd.C_below HR.out HB1.out) (fun _ _ h => h) (fun _ h => h.elim) (fun _ _ => trivial) HB1.out (below_size HB1.out) (by simp;omega) ?_;intro v2 w2 ho2 hb2 hg2 ha2;clear hg2 ha2;have HO2 := Aside0.mk ho2;have HB2 := Aside0.mk hb2;clear ho2 hb2))
  go_ret
  exact ⟨_,rfl,by simpa using HO2.out,HB2.out⟩
set_option maxHeartbeats 1000000 in
set_option maxRecDepth 100000 in
theorem pdq_small (k : Nat) (P0_ : Nat → Prop) (v : Value) (l r : List Int) (L : Int) (hl : l.length ≤ 12) (w0 w : World) (hB : Below w0.heap.size w0 w) (ho : Kd.R (Kd.int .u64) 22 w w0.heap.size P0_ v l)
  (h : slices_insertionSortOrdered_uint64.f k l 0 (l.length : Int) = some r) :
  Calls Try.prog 102 #[v,.int .i64 0,.int .i64 (l.length : Int),.int .i64 L] w fun e w' => e = .returned (.tuple #[]) ∧ Kd.R (Kd.int .u64) 22 w' w0.heap.size (fun k_ => (P0_ k_ ∨ w.heap.size ≤ k_)) v r ∧ Below w0.heap.size w0 w' ∧ Kept w w' (fun k_ => P0_ k_) := by
 have hc := Aside0.mk (slices_insertionSortOrdered_uint64.calls k P0_ v l 0 (l.length : Int) r w0 w hB ho h)
 have hle : decide ((l.length : Int) ≤ 12) = true := decide_eq_true (by omega)
 have hle' : decide (l.length ≤ 12) = true := decide_eq_true hl
 clear hB ho h
 go_enter Try.func102,Try.ntmps102
 go_wp2
 go_loopg [1,2] 0 (fun kq v1 v2 w' => v1 = .int .i64 0 ∧ v2 = .int .i64 (l.length : Int) ∧ w' = w)
 case atStart => exact ⟨rfl,rfl,rfl⟩
 case round =>
  obtain ⟨rfl,rfl,rfl⟩ := hrel
  go_wp2_with (first|(go_at_call 105;(with_reducible refine hc.out.mono ?_);rintro e w' ⟨rfl,h1,h2,h3⟩;have H1 := Aside0.mk h1;have H2 := Aside0.mk h2;have H3 := Aside0.mk h3;clear h1 h2 h3))
  first|go_end0|((try simp only [Exit.inBlock,Exit.then]);refine bodyPost_ret (results_none rfl _ _ _) rfl ?_)
  exact ⟨rfl,H1.out,H2.out,H3.out⟩
set_option maxHeartbeats 1000000 in
set_option maxRecDepth 100000 in
theorem sort_small (k k2 : Nat) (P0_ : Nat → Prop) (A : Option Addr) (c : Nat) (l r : List Int) (L : Int) (hl : l.length ≤ 12) (w0 w : World) (hB : Below w0.heap.size w0 w) (ho : Kd.R (Kd.int .u64) 22 w w0.heap.size P0_ (.slice A l.length c) l)
  (h : slices_insertionSortOrdered_uint64.f k l 0 (l.length : Int) = some r) (hL : bits_Len.f k2 (l.length : Int) = some L) :
  Calls Try.prog 89 #[.slice A l.length c] w fun e w' => e = .returned (.tuple #[]) ∧ Kd.R (Kd.int .u64) 22 w' w0.heap.size (fun _ => True) (.slice A l.length c) r ∧ Below w0.heap.size w0 w' := by
 have HL := Aside0.mk hL
 have HO := Aside0.mk ho
 have HB := Aside0.mk hB
 have HH := Aside0.mk h
 clear hL ho hB h
 go_enter Try.func89,Try.ntmps89
 go_wp2_with (first
  | (go_at_call 103;(refine (bits_Len.calls k2 _ L _ HL.out).mono ?_);rintro e w' ⟨rfl,⟨nd,rfl⟩⟩;have hc := Aside0.mk (pdq_small k P0_ _ l r L hl w0 (w.drewN nd) (pw_below_drewN HB.out nd) (Kd.R_drewN HO.out nd) HH.out))
  | (go_at_call 102;(with_reducible refine hc.out.mono ?_);rintro e w' ⟨rfl,h1,h2,h3⟩;clear h3;have H1 := Aside0.mk h1;have H2 := Aside0.mk h2;clear h1 h2))
 first|go_end0|((try simp only [Exit.inBlock,Exit.then]);refine bodyPost_ret (results_none rfl _ _ _) rfl ?_)
 exact ⟨rfl,Kd.R_mono H1.out (fun _ _ => trivial),H2.out⟩
theorem below_cells {B : Nat} {w W : World} (h : Below B w W) {b : Nat} (hb : B ≤ b) : ∀ (vs : List Value) (o : Nat),Below B w (W.setCells b o vs) := by
 intro vs
 induction vs generalizing W with
 | nil => intro o;exact h
 | cons v vs ih => intro o;exact ih (h.setCell (p := ⟨b,o,none⟩) hb v) _
def Diff (l : List Int) (n : Nat) : Prop := ∀ i,i + 1 < n → rd l ((i : Int) + 1) ≠ rd l (i : Int)
set_option maxHeartbeats 1000000 in
set_option maxRecDepth 100000 in
theorem compact_u64 (A : Option Addr) (c : Nat) (l : List Int) (hl : l.length ≤ 1099511627776) (w0 w : World) (hB : Below w0.heap.size w0 w) (ho : Kd.R (Kd.int .u64) 22 w w0.heap.size (fun _ => True) (.slice A l.length c) l) :
  Calls Try.prog 90 #[.slice A l.length c] w fun e w' => Aside0 (∃ A' m c',e = .returned (.slice A' m c') ∧ (m = l.length ↔ Diff l l.length)) ∧ Below w0.heap.size w0 w' := by
 have HO := Aside0.mk ho
 have HB := Aside0.mk hB
 clear ho hB
 by_cases h2 : l.length < 2
 ·have hd : decide (l.length < 2) = true := decide_eq_true h2
  have hd' : decide ((l.length : Int) < 2) = true := decide_eq_true (by omega)
  go_enter Try.func90,Try.ntmps90
  go_wp2
  first|go_ret|((try simp only [Exit.inBlock,Exit.then]);refine bodyPost_ret (results_tmp rfl _ _ rfl) rfl ?_)
  exact ⟨⟨_,_,_,rfl,⟨fun _ i hi => absurd hi (by omega),fun _ => rfl⟩⟩,HB.out⟩
 ·have hd : decide (l.length < 2) = false := decide_eq_false h2
  have hd' : decide ((l.length : Int) < 2) = false := decide_eq_false (by omega)
  obtain ⟨b,q,hv,hb0,how⟩ := R_open HO.out (by omega)
  cases hv
  have HW := Aside0.mk how
  clear how
  have hcl := own_le HW.out
  go_enter Try.func90,Try.ntmps90
  go_wp2
  go_loopg [3] l.length (fun kq v3 w' => ∃ (j nd : Nat),v3 = .int .i64 ((j + 1 : Nat) : Int) ∧ Aside0 (kq + j + 1 = l.length + 1) ∧ Aside0 (j + 1 ≤ l.length ∧ Diff l (j + 1)) ∧ w' = w.drewN nd)
  case atStart => exact ⟨0,0,rfl,⟨by omega⟩,⟨by omega,fun i hi => absurd hi (by omega)⟩,rfl⟩
  case round =>
   obtain ⟨j,nd,rfl,HK,HD,rfl⟩ := hrel
   by_cases hlt : j + 1 < l.length
   ·have c1 := (own_at HW.out (j : Int) (by omega) (by omega)).1
    have c2 := (own_at HW.out ((j : Int) + 1) (by omega) (by omega)).1
    rw [Int.toNat_natCast] at c1
    rw [show ((j : Int) + 1).toNat = j + 1 from by omega] at c2
    have t1 : decide ((j : Int) + 1 < (l.length : Int)) = true := decide_eq_true (by omega)
    have p1 : ((0 : Int) ≤ (j : Int)) = True := eq_true (by omega)
    have p2 : ((j : Int) < (l.length : Int)) = True := eq_true (by omega)
    have p3 : ((0 : Int) ≤ (j : Int) + 1) = True := eq_true (by omega)
    have p4 : ((j : Int) + 1 < (l.length : Int)) = True := eq_true (by omega)
    by_cases he : rd l ((j : Int) + 1) = rd l (j : Int)
    ·have e1 : (rd l ((j : Int) + 1) == rd l (j : Int)) = true := beq_iff_eq.mpr he
     have HE := Aside0.mk he
     clear he
     go_wp2_with fail
     go_quiet (fail)
     go_wp2
     obtain ⟨N2,hN2⟩ : ∃ y,y = l.length - (j + 1) := ⟨_,rfl⟩
     obtain ⟨C2,hC2⟩ : ∃ y,y = c - (j + 1) := ⟨_,rfl⟩
     rw [← hN2,← hC2]
     have HN := Aside0.mk hN2
     have HC := Aside0.mk hC2
     clear hN2 hC2 c1 c2 t1 p1 p2 p3 p4 e1
     go_loopg [3,5] N2 (fun kq v3 v5 w' => ∃ (k m : Nat) (l' : List Int),v3 = .int .i64 (k : Int) ∧ v5 = .int .i64 ((m + 1 : Nat) : Int) ∧ Aside0 (kq + m = N2) ∧ Aside0 (1 ≤ k ∧ k ≤ j + 1 + m ∧ m + 1 ≤ N2) ∧ Aside0 (w'.ownsRow w0.heap.size 22 1 (.slice (some ⟨b,0,none⟩) l.length c) l.length (nums .u64 l')) ∧ Aside0 (Below w0.heap.size w0 w'))
     case atStart => exact ⟨j + 1,0,l,rfl,rfl,⟨by omega⟩,⟨by omega,by omega,by have := HN.out;omega⟩,⟨pw_own_drewN HW.out _⟩,⟨pw_below_drewN HB.out _⟩⟩
     case round =>
      obtain ⟨k,m,l',rfl,rfl,HK2,HM,HW2,HB2⟩ := hrel
      have hk1 := HM.out.1
      have hk2 := HM.out.2.1
      have hm2 := HM.out.2.2
      have hn2 := HN.out
      by_cases hlt2 : m + 1 < N2
      ·have c1 := (own_at HW2.out ((j + 1 + (m + 1) : Nat) : Int) (by omega) (by omega)).1
       have c2 := (own_at HW2.out ((j + 1 + m : Nat) : Int) (by omega) (by omega)).1
       obtain ⟨c3,f3⟩ := own_at HW2.out (k : Int) (by omega) (by omega)
       rw [Int.toNat_natCast] at c1 c2 c3 f3
       have t1 : decide ((m : Int) + 1 < (N2 : Int)) = true := decide_eq_true (by omega)
       have t2 : decide (m + 1 < N2) = true := decide_eq_true (by omega)
       have p1 : ((0 : Int) ≤ (m : Int)) = True := eq_true (by omega)
       have p2 : ((m : Int) < (N2 : Int)) = True := eq_true (by omega)
       have p3 : ((0 : Int) ≤ (m : Int) + 1) = True := eq_true (by omega)
       have p4 : ((m : Int) + 1 < (N2 : Int)) = True := eq_true (by omega)
       have p5 : ((0 : Int) ≤ (k : Int)) = True := eq_true (by omega)
       have p6 : ((k : Int) < (l.length : Int)) = True := eq_true (by omega)
       obtain ⟨x,hx⟩ : ∃ x,rd l' ((j + 1 + (m + 1) : Nat) : Int) = x := ⟨_,rfl⟩
       obtain ⟨y,hy⟩ : ∃ y,rd l' ((j + 1 + m : Nat) : Int) = y := ⟨_,rfl⟩
       rw [hx] at c1
       rw [hy] at c2
       have hwm := wrapI_id (n := (m : Int)) (by omega) (by omega)
       have hN2b : N2 ≤ 1099511627776 := by omega
       have hkb : k < l.length := by omega
       clear hx hy hn2
       by_cases he : x = y
       ·have e1 : (x != y) = false := bne_eq_false_iff_eq.mpr he
        clear he
        go_wp2_with fail
        go_quiet (fail)
        clear hwm
        go_wp2
        go_roundg (N2 - (m + 1))
        case measure => have := HK2.out;omega
        case rel => exact ⟨k,m + 1,l',rfl,by go_num,⟨by omega⟩,⟨by omega,by omega,by omega⟩,⟨pw_own_drewN HW2.out _⟩,⟨pw_below_drewN HB2.out _⟩⟩
       ·have e1 : (x != y) = true := bne_iff_ne.mpr he
        clear he
        go_wp2_with fail
        go_quiet (fail)
        clear hwm
        go_wp2
        go_roundg (N2 - (m + 1))
        case measure => have := HK2.out;omega
        case rel => exact ⟨k + 1,m + 1,l'.set k x,by go_num,by go_num,⟨by omega⟩,⟨by omega,by omega,by omega⟩,⟨(own_store (pw_own_drewN HW2.out nq) (k : Int) x).1⟩,⟨(pw_below_drewN HB2.out nq).setCell hb0 _⟩⟩
      ·have t1 : decide ((m : Int) + 1 < (N2 : Int)) = false := decide_eq_false (by omega)
       have t2 : decide (m + 1 < N2) = false := decide_eq_false (by omega)
       have hclr : ∀ ty,(Builtin.clear_ #[40] ty #[.slice (some ⟨b,k,none⟩) (l.length - k) (c - k)]).run Try.prog wr = .ok (.tuple #[]) (wr.setCells b k (List.replicate (l.length - k) (.int .u64 0))) := fun ty =>
        Lib.run_clear_slice wr 40 22 ty (.int .u64 0) Try.underlying40 Try.zeroValue22 rfl rfl b k (l.length - k) (c - k) (by omega)
         (fun j hj => by rw [show k + j = ((k + j : Nat) : Int).toNat from rfl,(own_at HW2.out ((k + j : Nat) : Int) (by omega) (by omega)).1];rfl)
         (fun j hj => by rw [show k + j = ((k + j : Nat) : Int).toNat from rfl,(own_at HW2.out ((k + j : Nat) : Int) (by omega) (by omega)).2])
       go_wp2
       first|go_ret|((try simp only [Exit.inBlock,Exit.then]);refine bodyPost_ret (results_tmp rfl _ _ rfl) rfl ?_)
       refine ⟨⟨_,_,_,rfl,⟨fun h => by omega,fun h => absurd HE.out (h j (by omega))⟩⟩,?_⟩
       exact below_cells HB2.out hb0 _ _
    ·have e1 : (rd l ((j : Int) + 1) == rd l (j : Int)) = false := beq_eq_false_iff_ne.mpr he
     have HE := Aside0.mk he
     clear he
     go_wp2_with fail
     go_quiet (fail)
     go_wp2
     go_roundg (l.length - (j + 1))
     case measure => have := HK.out;omega
     case rel =>
      refine ⟨j + 1,nd + nq,by go_num,⟨by omega⟩,⟨by omega,fun i hi => ?_⟩,by simp [World.drewN_drewN]⟩
      by_cases hij : i = j
      ·rw [hij];exact HE.out
      ·exact HD.out.2 i (by omega)
   ·have t1 : decide ((j : Int) + 1 < (l.length : Int)) = false := decide_eq_false (by omega)
    go_wp2
    first|go_ret|((try simp only [Exit.inBlock,Exit.then]);refine bodyPost_ret (results_tmp rfl _ _ rfl) rfl ?_)
    exact ⟨⟨_,_,_,rfl,⟨fun _ => by rw [show l.length = j + 1 from by have := HD.out.1;omega];exact HD.out.2,fun _ => rfl⟩⟩,pw_below_drewN HB.out nd⟩
end Go.Proofs.Ytmdoaijkaaaglaa.Hw
end
section
namespace Go.Proofs.Ytmdoaijkaaaglaa.Srt
open Go.RowKit Go.Proofs.Ytmdoaijkaaaglaa.Pr Go.Proofs.Ytmdoaijkaaaglaa.Hw Go.Proofs.YtmdoaijkaaaglaaW.PrintWords Go.Proofs.YtmdoaijkaaaglaaW.PrintLast Go.Proofs.YtmdoaijkaaaglaaW.PrintMore Go.Sort
theorem less_calls {x y : Int} {r : Bool} (h : ltInt x y = r) (w : World) : Calls Try.prog 111 #[.int .u64 x,.int .u64 y] w fun e w' => e = .returned (.bool r) ∧ ∃ n,w' = w.drewN n :=
 (cmp_Less_uint64.calls x y r w (by rw [sless,h])).mono fun e w' h => ⟨h.1,h.2.out⟩
set_option maxHeartbeats 2000000 in
set_option maxRecDepth 100000 in
theorem order2_walk (base : Nat) (l : List Int) (g c a b bs s : Nat) (w : World) (ho : w.ownsRow base 22 1 (.slice (some ⟨g,0,none⟩) l.length c) l.length (nums .u64 l)) (ha : a < l.length) (hb : b < l.length)
  (hS : w.heap[bs]? = some (.cells #[.int .i64 (s : Int)] 3 (0,0))) (hs : s < 1000000) :
  Calls Try.prog 121 #[.slice (some ⟨g,0,none⟩) l.length c,.int .i64 (a : Int),.int .i64 (b : Int),.pointer (some ⟨bs,0,none⟩)] w fun e w' =>
   e = .returned (.tuple #[.int .i64 ((order2 ltInt l.toArray a b s).1 : Int),.int .i64 ((order2 ltInt l.toArray a b s).2.1 : Int)]) ∧ Aside0 (w'.heap[bs]? = some (.cells #[.int .i64 ((order2 ltInt l.toArray a b s).2.2 : Int)] 3 (0,0))) ∧ Aside0 (RowKit.Below bs w w') := by
 have cb := (own_at ho (b : Int) (by omega) (by omega)).1
 have ca := (own_at ho (a : Int) (by omega) (by omega)).1
 rw [Int.toNat_natCast] at ca cb
 have HS := Aside0.mk hS
 have cs := blk_cell hS 0
 have fs := blk_frozen hS 0
 simp only [List.getElem?_toArray,List.getElem?_cons_zero] at cs
 have p1 : ((0 : Int) ≤ (a : Int)) = True := eq_true (by omega)
 have p2 : ((a : Int) < (l.length : Int)) = True := eq_true (by omega)
 have p3 : ((0 : Int) ≤ (b : Int)) = True := eq_true (by omega)
 have p4 : ((b : Int) < (l.length : Int)) = True := eq_true (by omega)
 have hq : ltInt (rd l (b : Int)) (rd l (a : Int)) = ltInt l.toArray[b]! l.toArray[a]! := by rw [srd,srd]
 obtain ⟨x,hx⟩ : ∃ x,rd l (b : Int) = x := ⟨_,rfl⟩
 obtain ⟨y,hy⟩ : ∃ y,rd l (a : Int) = y := ⟨_,rfl⟩
 rw [hx] at cb hq
 rw [hy] at ca hq
 clear hx hy hS ho
 cases hc : ltInt l.toArray[b]! l.toArray[a]! with
 | true =>
  have he : order2 ltInt l.toArray a b s = (b,a,s + 1) := by unfold order2;rw [hc,if_pos rfl]
  rw [he]
  rw [hc] at hq
  have HQ := Aside0.mk (fun w => less_calls hq w)
  clear he hq hc
  go_enter Try.func121,Try.ntmps121
  go_wp2
  go_quiet ((refine Calls.quiet_of (HQ.out _)))
  go_wp2
  first|go_ret2|((try simp only [Exit.inBlock,Exit.then]);refine bodyPost_ret (results_tmp2 rfl _ _ _) rfl ?_)
  refine ⟨rfl,⟨?_⟩,⟨?_⟩⟩
  ·exact blk_put (blk_drewN HS.out _) 0 _ (by simp)
  ·exact (pw_below_drewN (RowKit.Below.refl _ _) _).setCell (p := ⟨bs,0,none⟩) (Nat.le_refl _) _
 | false =>
  have he : order2 ltInt l.toArray a b s = (a,b,s) := by unfold order2;rw [hc,if_neg (by decide)]
  rw [he]
  rw [hc] at hq
  have HQ := Aside0.mk (fun w => less_calls hq w)
  clear he hq hc
  go_enter Try.func121,Try.ntmps121
  go_wp2
  go_quiet ((refine Calls.quiet_of (HQ.out _)))
  go_wp2
  first|go_ret2|((try simp only [Exit.inBlock,Exit.then]);refine bodyPost_ret (results_tmp2 rfl _ _ _) rfl ?_)
  exact ⟨rfl,⟨blk_drewN HS.out _⟩,⟨pw_below_drewN (RowKit.Below.refl _ _) _⟩⟩
theorem own_belowB {w w1 : World} {bs base : Nat} {e : TypeId} {g n c : Nat} {xs : List Value} (h : w.ownsRow base e 1 (.slice (some ⟨g,0,none⟩) n c) n xs) (hb : RowKit.Below bs w w1) (hg : g < bs) : w1.ownsRow base e 1 (.slice (some ⟨g,0,none⟩) n c) n xs :=
 own_move h fun k hk => by
  have e : (Value.slice (some ⟨g,0,none⟩) n c).ownBlock = some g := rfl
  rw [e] at hk
  obtain rfl := Option.some.inj hk
  exact hb.block g hg
theorem order2_lt (d : Array Int) {a b n : Nat} (s : Nat) (ha : a < n) (hb : b < n) : (order2 ltInt d a b s).1 < n ∧ (order2 ltInt d a b s).2.1 < n := by
 have := order2_mem ltInt d a b s
 omega
theorem order2_le (d : Array Int) (a b s : Nat) : (order2 ltInt d a b s).2.2 ≤ s + 1 := by unfold order2;split <;> simp
set_option maxHeartbeats 2000000 in
set_option maxRecDepth 100000 in
theorem median_walk (base : Nat) (l : List Int) (g q a b c bs s : Nat) (w : World) (ho : w.ownsRow base 22 1 (.slice (some ⟨g,0,none⟩) l.length q) l.length (nums .u64 l)) (ha : a < l.length) (hb : b < l.length) (hc : c < l.length) (hg : g < bs)
  (hS : w.heap[bs]? = some (.cells #[.int .i64 (s : Int)] 3 (0,0))) (hs : s < 1000) :
  Calls Try.prog 119 #[.slice (some ⟨g,0,none⟩) l.length q,.int .i64 (a : Int),.int .i64 (b : Int),.int .i64 (c : Int),.pointer (some ⟨bs,0,none⟩)] w fun e w' =>
   e = .returned (.int .i64 ((Go.Sort.median ltInt l.toArray a b c s).1 : Int)) ∧ Aside0 (w'.heap[bs]? = some (.cells #[.int .i64 ((Go.Sort.median ltInt l.toArray a b c s).2 : Int)] 3 (0,0))) ∧ Aside0 (RowKit.Below bs w w') := by
 have l1 := order2_lt l.toArray s ha hb
 have s1 := order2_le l.toArray a b s
 have o1 := fun w ho hS => order2_walk base l g q a b bs s w ho ha hb hS (by omega)
 have hm : Go.Sort.median ltInt l.toArray a b c s = ((order2 ltInt l.toArray (order2 ltInt l.toArray a b s).1 (order2 ltInt l.toArray (order2 ltInt l.toArray a b s).2.1 c (order2 ltInt l.toArray a b s).2.2).1 (order2 ltInt l.toArray (order2 ltInt l.toArray a b s).2.1 c (order2 ltInt l.toArray a b s).2.2).2.2).2.1,(order2 ltInt l.toArray (order2 ltInt l.toArray a b s).1 (order2 ltInt l.toArray (order2 ltInt l.toArray a b s).2.1 c (order2 ltInt l.toArray a b s).2.2).1 (order2 ltInt l.toArray (order2 ltInt l.toArray a b s).2.1 c (order2 ltInt l.toArray a b s).2.2).2.2).2.2) := rfl
 rw [hm]
 clear hm
 obtain ⟨r1,e1⟩ : ∃ r,r = order2 ltInt l.toArray a b s := ⟨_,rfl⟩
 rw [← e1] at l1 s1 o1 ⊢
 have l2 := order2_lt l.toArray r1.2.2 l1.2 hc
 have s2 := order2_le l.toArray r1.2.1 c r1.2.2
 have o2 := fun w ho hS => order2_walk base l g q r1.2.1 c bs r1.2.2 w ho l1.2 hc hS (by omega)
 obtain ⟨r2,e2⟩ : ∃ r,r = order2 ltInt l.toArray r1.2.1 c r1.2.2 := ⟨_,rfl⟩
 rw [← e2] at l2 s2 o2 ⊢
 have o3 := fun w ho hS => order2_walk base l g q r1.1 r2.1 bs r2.2.2 w ho l1.1 l2.1 hS (by omega)
 obtain ⟨r3,e3⟩ : ∃ r,r = order2 ltInt l.toArray r1.1 r2.1 r2.2.2 := ⟨_,rfl⟩
 rw [← e3] at o3 ⊢
 obtain ⟨x1,y1,z1⟩ := r1
 obtain ⟨x2,y2,z2⟩ := r2
 obtain ⟨x3,y3,z3⟩ := r3
 dsimp only at o1 o2 o3 ⊢
 have O1 := Aside0.mk (o1 w ho hS)
 have O2 := Aside0.mk o2
 have O3 := Aside0.mk o3
 have HO := Aside0.mk ho
 have HG := Aside0.mk hg
 clear e1 e2 e3 l1 l2 s1 s2 o1 o2 o3 ho hS hg ha hb hc hs
 go_enter Try.func119,Try.ntmps119
 go_wp2_with fail
 go_at_call 121
 refine O1.out.mono ?_
 rintro e w1 ⟨rfl,H1,B1⟩
 go_wp2_with fail
 go_at_call 121
 refine (O2.out w1 (own_belowB HO.out B1.out HG.out) H1.out).mono ?_
 rintro e w2 ⟨rfl,H2,B2⟩
 go_wp2_with fail
 go_at_call 121
 refine (O3.out w2 (own_belowB (own_belowB HO.out B1.out HG.out) B2.out HG.out) H2.out).mono ?_
 rintro e w3 ⟨rfl,H3,B3⟩
 go_wp2_with fail
 first|go_ret|((try simp only [Exit.inBlock,Exit.then]);refine bodyPost_ret (results_tmp rfl _ _ _) rfl ?_)
 exact ⟨rfl,H3,⟨(B1.out.trans B2.out).trans B3.out⟩⟩
def hintN : Hint → Int
 | .unknown => 0
 | .increasing => 1
 | .decreasing => 2
theorem median_le (d : Array Int) (i j k : Nat) : (Go.Sort.median ltInt d i j k 0).2 ≤ 3 := by
 unfold Go.Sort.median
 have a1 := order2_le d i j 0
 have a2 := order2_le d (order2 ltInt d i j 0).2.1 k (order2 ltInt d i j 0).2.2
 have a3 := order2_le d (order2 ltInt d i j 0).1 (order2 ltInt d (order2 ltInt d i j 0).2.1 k (order2 ltInt d i j 0).2.2).1 (order2 ltInt d (order2 ltInt d i j 0).2.1 k (order2 ltInt d i j 0).2.2).2.2
 exact Nat.le_trans a3 (by omega)
theorem choose_small (d : Array Int) (a b : Nat) (h1 : 12 < b - a) (h2 : b - a < 50) : choosePivot ltInt d a b =
  ((Go.Sort.median ltInt d (a + (b - a) / 4) (a + (b - a) / 4 * 2) (a + (b - a) / 4 * 3) 0).1,if (Go.Sort.median ltInt d (a + (b - a) / 4) (a + (b - a) / 4 * 2) (a + (b - a) / 4 * 3) 0).2 = 0 then .increasing else .unknown) := by
 have hm := median_le d (a + (b - a) / 4) (a + (b - a) / 4 * 2) (a + (b - a) / 4 * 3)
 unfold choosePivot
 simp only [Nat.mul_one]
 rw [if_pos (show b - a ≥ 8 by omega),if_neg (show ¬ b - a ≥ 50 by omega)]
 generalize Go.Sort.median ltInt d (a + (b - a) / 4) (a + (b - a) / 4 * 2) (a + (b - a) / 4 * 3) 0 = r at hm
 obtain ⟨x,y⟩ := r
 dsimp only at hm ⊢
 by_cases h0 : y = 0
 ·rw [if_pos h0,if_pos h0]
 ·rw [if_neg h0,if_neg h0,if_neg (by omega)]
set_option maxHeartbeats 2000000 in
set_option maxRecDepth 100000 in
theorem pivot_walk (base : Nat) (l : List Int) (g q a b : Nat) (w : World) (ho : w.ownsRow base 22 1 (.slice (some ⟨g,0,none⟩) l.length q) l.length (nums .u64 l)) (hb : b ≤ l.length) (h1 : 12 < b - a) (h2 : b - a < 50) (hl : l.length < 1000000) :
  Calls Try.prog 108 #[.slice (some ⟨g,0,none⟩) l.length q,.int .i64 (a : Int),.int .i64 (b : Int)] w fun e w' =>
   e = .returned (.tuple #[.int .i64 ((choosePivot ltInt l.toArray a b).1 : Int),.int .i64 (hintN (choosePivot ltInt l.toArray a b).2)]) ∧ Aside0 (RowKit.Below w.heap.size w w') := by
 have hg : g < w.heap.size := own_lt ho g rfl
 have hm := median_walk base l g q (a + (b - a) / 4) (a + (b - a) / 4 * 2) (a + (b - a) / 4 * 3) w.heap.size 0 (w.alloc (.cells #[.int .i64 0] 3)) (pw_own_below ho (below_alloc (RowKit.Below.refl _ _) _)) (by omega) (by omega) (by omega) hg (blk_new w _) (by omega)
 rw [choose_small _ a b h1 h2]
 obtain ⟨r,hr⟩ : ∃ r,r = Go.Sort.median ltInt l.toArray (a + (b - a) / 4) (a + (b - a) / 4 * 2) (a + (b - a) / 4 * 3) 0 := ⟨_,rfl⟩
 have hy3 := median_le l.toArray (a + (b - a) / 4) (a + (b - a) / 4 * 2) (a + (b - a) / 4 * 3)
 rw [← hr] at hm hy3 ⊢
 clear hr ho hg
 obtain ⟨x,y⟩ := r
 dsimp only at hm hy3 ⊢
 obtain ⟨L,hL⟩ : ∃ L,L = b - a := ⟨_,rfl⟩
 obtain rfl : b = a + L := by omega
 rw [← hL] at hm
 have HM := Aside0.mk hm
 clear hm hL
 have q1 : decide ((L : Int) ≥ 8) = true := decide_eq_true (by omega)
 have q2 : decide ((L : Int) ≥ 50) = false := decide_eq_false (by omega)
 have hsub : ((a + L : Nat) : Int) - (a : Int) = (L : Int) := by omega
 have HA := Aside0.mk (below_alloc (RowKit.Below.refl w.heap.size w) (.cells #[.int .i64 0] 3))
 by_cases h0 : y = 0
 ·have t1 : ((y : Int) == 0) = true := beq_iff_eq.mpr (by omega)
  rw [if_pos h0]
  clear h0
  go_enter Try.func108,Try.ntmps108
  go_wp2_with fail
  refine calls_of_args (args' := #[.slice (some ⟨g,0,none⟩) l.length q,.int .i64 ((a + L / 4 : Nat) : Int),.int .i64 ((a + L / 4 * 2 : Nat) : Int),.int .i64 ((a + L / 4 * 3 : Nat) : Int),.pointer (some ⟨w.heap.size,0,none⟩)]) ?_ (HM.out.mono ?_)
  ·rw [show ((a + L / 4 : Nat) : Int) = (a : Int) + ((a : Int) + (L : Int) - (a : Int)) / 4 from by omega,show ((a + L / 4 * 2 : Nat) : Int) = (a : Int) + ((a : Int) + (L : Int) - (a : Int)) / 4 * 2 from by omega,show ((a + L / 4 * 3 : Nat) : Int) = (a : Int) + ((a : Int) + (L : Int) - (a : Int)) / 4 * 3 from by omega]
  rintro e w1 ⟨rfl,H1,B1⟩
  have c0 := blk_cell H1.out 0
  simp only [List.getElem?_toArray,List.getElem?_cons_zero] at c0
  have HB := Aside0.mk (HA.out.trans B1.out)
  clear H1 HM HA B1
  go_wp2_with fail
  first|go_ret2|((try simp only [Exit.inBlock,Exit.then]);refine bodyPost_ret (results_tmp2 rfl _ _ _) rfl ?_)
  exact ⟨rfl,HB⟩
 ·have t1 : ((y : Int) == 0) = false := beq_eq_false_iff_ne.mpr (by omega)
  have t2 : ((y : Int) == 12) = false := beq_eq_false_iff_ne.mpr (by omega)
  rw [if_neg h0]
  clear h0
  go_enter Try.func108,Try.ntmps108
  go_wp2_with fail
  refine calls_of_args (args' := #[.slice (some ⟨g,0,none⟩) l.length q,.int .i64 ((a + L / 4 : Nat) : Int),.int .i64 ((a + L / 4 * 2 : Nat) : Int),.int .i64 ((a + L / 4 * 3 : Nat) : Int),.pointer (some ⟨w.heap.size,0,none⟩)]) ?_ (HM.out.mono ?_)
  ·rw [show ((a + L / 4 : Nat) : Int) = (a : Int) + ((a : Int) + (L : Int) - (a : Int)) / 4 from by omega,show ((a + L / 4 * 2 : Nat) : Int) = (a : Int) + ((a : Int) + (L : Int) - (a : Int)) / 4 * 2 from by omega,show ((a + L / 4 * 3 : Nat) : Int) = (a : Int) + ((a : Int) + (L : Int) - (a : Int)) / 4 * 3 from by omega]
  rintro e w1 ⟨rfl,H1,B1⟩
  have c0 := blk_cell H1.out 0
  simp only [List.getElem?_toArray,List.getElem?_cons_zero] at c0
  have HB := Aside0.mk (HA.out.trans B1.out)
  clear H1 HM HA B1
  go_wp2_with fail
  first|go_ret2|((try simp only [Exit.inBlock,Exit.then]);refine bodyPost_ret (results_tmp2 rfl _ _ _) rfl ?_)
  exact ⟨rfl,HB⟩
theorem set_set (w : World) (b i : Nat) (u v : Value) : (w.setCell ⟨b,i,none⟩ u).setCell ⟨b,i,none⟩ v = w.setCell ⟨b,i,none⟩ v := by
 rw [setCell_eq,setCell_eq,mapBlock_mapBlock,setCell_eq]
 congr 1
 funext c
 simp
set_option maxHeartbeats 2000000 in
set_option maxRecDepth 100000 in
theorem next_walk (br X : Nat) (hX : X < 18446744073709551616) (w : World) (hS : w.heap[br]? = some (.cells #[.int .u64 (X : Int)] 130 (0,0))) :
  Calls Try.prog 117 #[.pointer (some ⟨br,0,none⟩)] w fun e w' => e = .returned (.int .u64 ((xorNextN X : Nat) : Int)) ∧ Aside0 (w'.heap[br]? = some (.cells #[.int .u64 ((xorNextN X : Nat) : Int)] 130 (0,0))) ∧ Aside0 (RowKit.Below br w w') := by
 obtain ⟨A,hA⟩ : ∃ A : Nat,A = X ^^^ (X * 8192 % 18446744073709551616) := ⟨_,rfl⟩
 obtain ⟨B,hB⟩ : ∃ B : Nat,B = A ^^^ (A / 128) := ⟨_,rfl⟩
 obtain ⟨C,hC⟩ : ∃ C : Nat,C = B ^^^ (B * 131072 % 18446744073709551616) := ⟨_,rfl⟩
 have lA : A < 18446744073709551616 := by rw [hA];exact Nat.xor_lt_two_pow (n := 64) (by omega) (by omega)
 have lB : B < 18446744073709551616 := by rw [hB];exact Nat.xor_lt_two_pow (n := 64) (by omega) (by omega)
 have g1 : bits .xor .u64 (X : Int) (IntKind.u64.wrap ((X : Int) * 8192)) = (A : Int) := by
  rw [IntKind.wrap_u64,show ((X : Int) * 8192 % 18446744073709551616) = ((X * 8192 % 18446744073709551616 : Nat) : Int) by omega,bits_xor_u64_nat _ _ hX (by omega),hA]
 have g2 : bits .xor .u64 (A : Int) ((A : Int) / 128) = (B : Int) := by
  rw [show ((A : Int) / 128) = ((A / 128 : Nat) : Int) by omega,bits_xor_u64_nat _ _ lA (by omega),hB]
 have g3 : bits .xor .u64 (B : Int) (IntKind.u64.wrap ((B : Int) * 131072)) = (C : Int) := by
  rw [IntKind.wrap_u64,show ((B : Int) * 131072 % 18446744073709551616) = ((B * 131072 % 18446744073709551616 : Nat) : Int) by omega,bits_xor_u64_nat _ _ lB (by omega),hC]
 have hv : xorNextN X = C := by unfold xorNextN;simp only [];rw [← hA,← hB,← hC]
 rw [hv]
 have HS := Aside0.mk hS
 have c0 := blk_cell hS 0
 have f0 := blk_frozen hS 0
 simp only [List.getElem?_toArray,List.getElem?_cons_zero] at c0
 have hss := fun u v => set_set w br 0 u v
 clear hA hB hC hv hS hX lA lB
 go_enter Try.func117,Try.ntmps117
 go_wp2
 go_region
 all_goals go_wp2
 all_goals go_region
 all_goals go_wp2
 all_goals go_region
 all_goals go_wp2
 first|go_ret|((try simp only [Exit.inBlock,Exit.then]);refine bodyPost_ret (results_tmp rfl _ _ _) rfl ?_)
 refine ⟨rfl,⟨?_⟩,⟨?_⟩⟩
 ·exact blk_put (w := w) HS.out 0 _ (by simp)
 ·exact below_drew (below_drew (below_drew ((RowKit.Below.refl _ _).setCell (p := ⟨br,0,none⟩) (Nat.le_refl _) _)))
theorem len_tab : ∀ n : Nat,n < 50 → bits_Len.f 3 (n : Int) = some ((bitsLen n : Nat) : Int) := by
 have h : (List.range 50).all (fun (n : Nat) => bits_Len.f 3 (n : Int) == some ((bitsLen n : Nat) : Int)) = true := by decide +kernel
 intro n hn
 exact eq_of_beq (List.all_eq_true.1 h n (List.mem_range.2 hn))
theorem pow_bitsLen (n : Nat) (hn : n < 50) : IntKind.u64.wrap ((2 : Int) ^ bitsLen n) = ((1 <<< bitsLen n : Nat) : Int) := by
 have hk : bitsLen n ≤ 6 := (bitsLen_le_iff n 6).2 (by omega)
 have h : (2 : Nat) ^ bitsLen n ≤ 2 ^ 6 := Nat.pow_le_pow_right (by decide) hk
 rw [IntKind.wrap_u64,Nat.one_shiftLeft,show ((2 : Int) ^ bitsLen n) = ((2 ^ bitsLen n : Nat) : Int) by push_cast;rfl]
 generalize (2 : Nat) ^ bitsLen n = p at h
 omega
set_option maxRecDepth 100000 in
theorem pow_walk (n : Nat) (hn : n < 50) (w : World) : Calls Try.prog 116 #[.int .i64 (n : Int)] w fun e w' => e = .returned (.int .u64 ((1 <<< bitsLen n : Nat) : Int)) ∧ Aside0 (∃ m,w' = w.drewN m) := by
 have HL := Aside0.mk (len_tab n hn)
 have hk : bitsLen n ≤ 6 := (bitsLen_le_iff n 6).2 (by omega)
 have hp := pow_bitsLen n hn
 obtain ⟨k,hkk⟩ : ∃ k,k = bitsLen n := ⟨_,rfl⟩
 rw [← hkk] at HL hp hk ⊢
 clear hkk
 go_enter Try.func116,Try.ntmps116
 go_wp2_with (first|(go_at_call 103;(refine (bits_Len.calls 3 _ (k : Int) _ HL.out).mono ?_);rintro e w' ⟨rfl,⟨nd,rfl⟩⟩))
 first|go_ret|((try simp only [Exit.inBlock,Exit.then]);refine bodyPost_ret (results_tmp rfl _ _ _) rfl ?_)
 exact ⟨by first|rfl|(rw [← hp];rfl)|(congr 1;exact hp),⟨_,rfl⟩⟩
def bpN (a L M i0 : Nat) (st : UInt64 × Array Int) : Nat → UInt64 × Array Int
 | 0 => st
 | t + 1 => breakStep a L M (bpN a L M i0 st t) (i0 + t)
theorem break_eq (d : Array Int) (a L : Nat) (h8 : 8 ≤ L) : breakPatterns d a (a + L) = (bpN a L (1 <<< bitsLen L) (a + L / 4 * 2 - 1) (UInt64.ofNat L,d) 3).2 := by
 unfold breakPatterns
 simp only [Nat.add_sub_cancel_left]
 rw [if_pos h8]
 rfl
theorem bpN_next (a L M i0 : Nat) (st : UInt64 × Array Int) (t : Nat) (l : List Int) (r : UInt64) (h1 : (bpN a L M i0 st t).1 = r) (h2 : (bpN a L M i0 st t).2 = l.toArray) (o : Nat)
  (ho : o = (if (xorNext r).toNat &&& (M - 1) ≥ L then ((xorNext r).toNat &&& (M - 1)) - L else (xorNext r).toNat &&& (M - 1))) :
  (bpN a L M i0 st (t + 1)).1 = xorNext r ∧ (bpN a L M i0 st (t + 1)).2 = ((l.set (i0 + t) (rd l ((a + o : Nat) : Int))).set (a + o) (rd l ((i0 + t : Nat) : Int))).toArray := by
 rw [sswp]
 rw [bpN]
 unfold breakStep
 simp only [h1,h2,← ho]
 exact ⟨trivial,trivial⟩
theorem own_swap {w : World} {base g n c : Nat} {l : List Int} (h : w.ownsRow base 22 1 (.slice (some ⟨g,0,none⟩) n c) n (nums .u64 l)) (i j : Nat) (x y : Int) :
  ((w.setCell ⟨g,i,none⟩ (.int .u64 x)).setCell ⟨g,j,none⟩ (.int .u64 y)).ownsRow base 22 1 (.slice (some ⟨g,0,none⟩) n c) n (nums .u64 ((l.set i x).set j y)) := by
 have h1 := (own_store h (i : Int) x).1
 have h2 := (own_store h1 (j : Int) y).1
 simpa using h2
set_option maxHeartbeats 4000000 in
set_option maxRecDepth 100000 in
theorem break_walk (l : List Int) (g q a L : Nat) (w0 w : World) (hB : RowKit.Below w0.heap.size w0 w) (ho : w.ownsRow w0.heap.size 22 1 (.slice (some ⟨g,0,none⟩) l.length q) l.length (nums .u64 l)) (hb : a + L ≤ l.length) (h1 : 12 < L) (h2 : L < 50) (hl : l.length < 1000000) :
  Calls Try.prog 107 #[.slice (some ⟨g,0,none⟩) l.length q,.int .i64 (a : Int),.int .i64 ((a + L : Nat) : Int)] w fun e w' =>
   e = .returned (.tuple #[]) ∧ Aside0 (w'.ownsRow w0.heap.size 22 1 (.slice (some ⟨g,0,none⟩) l.length q) l.length (nums .u64 (breakPatterns l.toArray a (a + L)).toList)) ∧ Aside0 (RowKit.Below w0.heap.size w0 w') := by
 rw [break_eq _ a L (by omega)]
 have HP := Aside0.mk (fun w => pow_walk L h2 w)
 have hM1 : 1 ≤ 1 <<< bitsLen L := by rw [Nat.one_shiftLeft];exact Nat.two_pow_pos _
 have hM2 : 1 <<< bitsLen L ≤ 2 * L := by rw [Nat.one_shiftLeft];exact two_pow_bitsLen_le (by omega)
 obtain ⟨M,hM⟩ : ∃ M : Nat,M = 1 <<< bitsLen L := ⟨_,rfl⟩
 rw [← hM] at HP hM1 hM2 ⊢
 clear hM
 have hg : g < w.heap.size := own_lt ho g rfl
 have hgb : w0.heap.size ≤ g := own_base ho g rfl
 obtain ⟨br,hbr⟩ : ∃ b,b = w.heap.size := ⟨_,rfl⟩
 have HBR := Aside0.mk hbr
 have HO0 := Aside0.mk (pw_own_below ho (below_alloc (RowKit.Below.refl _ _) (.cells #[.int .u64 (L : Int)] 130)))
 have HB0 := Aside0.mk (below_alloc hB (.cells #[.int .u64 (L : Int)] 130))
 have HS0 := Aside0.mk (show (w.alloc (.cells #[.int .u64 (L : Int)] 130)).heap[br]? = some (.cells #[.int .u64 (((UInt64.ofNat L).toNat : Nat) : Int)] 130 (0,0)) by
  rw [hbr,show (UInt64.ofNat L).toNat = L from by simp;omega];exact blk_new w _)
 have hgr : g < br := by omega
 have hbw : w0.heap.size ≤ br := by omega
 clear hbr ho hB hg
 go_enter Try.func107,Try.ntmps107
 go_wp2_with fail
 rw [show (a : Int) + (L : Int) - (a : Int) = (L : Int) from by omega,← HBR.out]
 refine (HP.out _).mono ?_
 rintro e w1 ⟨rfl,⟨nd,rfl⟩⟩
 have HO1 := Aside0.mk (pw_own_drewN HO0.out nd)
 have HB1 := Aside0.mk (pw_below_drewN HB0.out nd)
 have HS1 := Aside0.mk (blk_drewN HS0.out nd)
 clear HO0 HB0 HS0 HP
 go_wp2_with fail
 go_loopg [9,10] 3 (fun kq v9 v10 w' => ∃ (t : Nat) (r : UInt64) (dk : List Int),v9 = .int .i64 ((a + L / 4 * 2 - 1 + t : Nat) : Int) ∧ Aside0 (kq + t = 3) ∧ Aside0 ((bpN a L M (a + L / 4 * 2 - 1) (UInt64.ofNat L,l.toArray) t).1 = r ∧ (bpN a L M (a + L / 4 * 2 - 1) (UInt64.ofNat L,l.toArray) t).2 = dk.toArray ∧ dk.length = l.length) ∧
  Aside0 (w'.ownsRow w0.heap.size 22 1 (.slice (some ⟨g,0,none⟩) l.length q) l.length (nums .u64 dk)) ∧ Aside0 (w'.heap[br]? = some (.cells #[.int .u64 ((r.toNat : Nat) : Int)] 130 (0,0))) ∧ Aside0 (RowKit.Below w0.heap.size w0 w'))
 case atStart => exact ⟨0,UInt64.ofNat L,l,by first|rfl|(congr 1;omega),⟨rfl⟩,⟨rfl,rfl,rfl⟩,HO1,HS1,HB1⟩
 case round =>
  clear HO1 HB1 HS1
  obtain ⟨t,r,dk,rfl,HK,HR,HO,HS,HB⟩ := hrel
  by_cases ht : t < 3
  ·obtain ⟨R,hR⟩ : ∃ R : Nat,R = r.toNat := ⟨_,rfl⟩
   have lR : R < 18446744073709551616 := by rw [hR];exact r.toNat_lt
   obtain ⟨R',hR'⟩ : ∃ R' : Nat,R' = xorNextN R := ⟨_,rfl⟩
   have lR' : R' < 18446744073709551616 := by rw [hR'];exact xorNextN_lt R lR
   obtain ⟨O,hO⟩ : ∃ O : Nat,O = R' &&& (M - 1) := ⟨_,rfl⟩
   have lO : O ≤ M - 1 := by rw [hO];exact Nat.and_le_right
   have eAnd : bits .and .u64 (R' : Int) ((M : Int) - 1) = (O : Int) := by
    rw [show ((M : Int) - 1) = ((M - 1 : Nat) : Int) by omega,u64_and_nat _ _ lR' (by omega),hO]
   have HN := Aside0.mk (next_walk br R lR wr (by rw [hR];exact HS.out))
   have eX : R' = (xorNext r).toNat := by rw [hR',hR,xorNext_toNat]
   have HX := Aside0.mk (And.intro eX (show O = (xorNext r).toNat &&& (M - 1) by rw [hO,eX]))
   rw [← hR'] at HN
   clear hR hR' hO eX lR lR'
   have q1 : ((a + L / 4 * 2 - 1 + t : Nat) : Int) ≤ (a : Int) + (L : Int) / 4 * 2 + 1 := by omega
   go_wp2_with fail
   refine HN.out.mono ?_
   rintro e w2 ⟨rfl,HS2,B2⟩
   have HO2 := Aside0.mk (own_belowB HO.out B2.out hgr)
   have HB2 := Aside0.mk (HB.out.trans (B2.out.mono hbw))
   clear HN HO HB B2
   obtain ⟨I,hI⟩ : ∃ I : Nat,I = a + L / 4 * 2 - 1 + t := ⟨_,rfl⟩
   have hI2 : a ≤ I ∧ I < a + L := by omega
   by_cases hLO : L ≤ O
   ·obtain ⟨J,hJ⟩ : ∃ J : Nat,J = O - L := ⟨_,rfl⟩
    have hJ2 : J < L := by omega
    have hwr : (O : Int) - (L : Int) = (J : Int) := by omega
    have HJ := Aside0.mk (show J = (if (xorNext r).toNat &&& (M - 1) ≥ L then ((xorNext r).toNat &&& (M - 1)) - L else (xorNext r).toNat &&& (M - 1)) by rw [← HX.out.2,if_pos hLO];exact hJ)
    have hJ3 : a + J < l.length := by omega
    have HX' := Aside0.mk HX.out.1
    clear HX hJ
    go_wp2_with fail
    have hdl := HR.out.2.2
    have c1 := own_at HO2.out ((a + L / 4 * 2 - 1 + t : Nat) : Int) (by omega) (by omega)
    have c2 := own_at HO2.out ((a + J : Nat) : Int) (by omega) (by omega)
    rw [Int.toNat_natCast] at c1 c2
    have HNX := Aside0.mk (bpN_next a L M (a + L / 4 * 2 - 1) (UInt64.ofNat L,l.toArray) t dk r HR.out.1 HR.out.2.1 J HJ.out)
    obtain ⟨x1,ex1⟩ : ∃ x,x = rd dk ((a + L / 4 * 2 - 1 + t : Nat) : Int) := ⟨_,rfl⟩
    obtain ⟨x2,ex2⟩ : ∃ x,x = rd dk ((a + J : Nat) : Int) := ⟨_,rfl⟩
    rw [← ex1,← ex2] at HNX
    rw [← ex1] at c1
    rw [← ex2] at c2
    obtain ⟨c1,f1⟩ := c1
    obtain ⟨c2,f2⟩ := c2
    have HO3 := Aside0.mk (pw_own_below (own_swap HO2.out (a + L / 4 * 2 - 1 + t) (a + J) x2 x1) (below_drew (RowKit.Below.refl _ _)))
    have HB3 := Aside0.mk (below_drew ((HB2.out.setCell (p := ⟨g,a + L / 4 * 2 - 1 + t,none⟩) hgb (.int .u64 x2)).setCell (p := ⟨g,a + J,none⟩) hgb (.int .u64 x1)))
    have HS3 := Aside0.mk (blk_drew (blk_far (p := ⟨g,a + J,none⟩) (blk_far (p := ⟨g,a + L / 4 * 2 - 1 + t,none⟩) HS2.out (show br ≠ g by omega) (.int .u64 x2)) (show br ≠ g by omega) (.int .u64 x1)))
    have HLn := Aside0.mk (show ((dk.set (a + L / 4 * 2 - 1 + t) x2).set (a + J) x1).length = l.length by rw [slen];exact hdl)
    have HKt := Aside0.mk (show 3 - (t + 1) + (t + 1) = 3 by omega)
    have EX := Aside0.mk (And.intro ex1 ex2)
    have hX2 := HX'.out
    clear hdl ex1 ex2 hI hI2
    by_cases hEq : a + L / 4 * 2 - 1 + t = a + J
    ·have h12 : x1 = x2 := by rw [EX.out.1,EX.out.2,hEq]
     subst h12
     rw [hEq] at HO3 HB3 HS3 HLn HNX
     go_region
     all_goals go_wp2
     go_roundg (3 - (t + 1))
     case measure => have := HK.out;omega
     case rel => exact ⟨t + 1,xorNext r,_,by congr 1 <;> omega,HKt,⟨HNX.out.1,HNX.out.2,HLn.out⟩,HO3,by rw [hX2] at HS3;exact HS3,HB3⟩
    ·go_region
     all_goals go_wp2
     go_roundg (3 - (t + 1))
     case measure => have := HK.out;omega
     case rel => exact ⟨t + 1,xorNext r,_,by congr 1 <;> omega,HKt,⟨HNX.out.1,HNX.out.2,HLn.out⟩,HO3,by rw [hX2] at HS3;exact HS3,HB3⟩
   ·obtain ⟨J,hJ⟩ : ∃ J : Nat,J = O := ⟨_,rfl⟩
    subst hJ
    have hJ2 : J < L := by omega
    have HJ := Aside0.mk (show J = (if (xorNext r).toNat &&& (M - 1) ≥ L then ((xorNext r).toNat &&& (M - 1)) - L else (xorNext r).toNat &&& (M - 1)) by rw [← HX.out.2,if_neg hLO])
    have hJ3 : a + J < l.length := by omega
    have HX' := Aside0.mk HX.out.1
    clear HX
    go_wp2_with fail
    have hdl := HR.out.2.2
    have c1 := own_at HO2.out ((a + L / 4 * 2 - 1 + t : Nat) : Int) (by omega) (by omega)
    have c2 := own_at HO2.out ((a + J : Nat) : Int) (by omega) (by omega)
    rw [Int.toNat_natCast] at c1 c2
    have HNX := Aside0.mk (bpN_next a L M (a + L / 4 * 2 - 1) (UInt64.ofNat L,l.toArray) t dk r HR.out.1 HR.out.2.1 J HJ.out)
    obtain ⟨x1,ex1⟩ : ∃ x,x = rd dk ((a + L / 4 * 2 - 1 + t : Nat) : Int) := ⟨_,rfl⟩
    obtain ⟨x2,ex2⟩ : ∃ x,x = rd dk ((a + J : Nat) : Int) := ⟨_,rfl⟩
    rw [← ex1,← ex2] at HNX
    rw [← ex1] at c1
    rw [← ex2] at c2
    obtain ⟨c1,f1⟩ := c1
    obtain ⟨c2,f2⟩ := c2
    have HO3 := Aside0.mk (pw_own_below (own_swap HO2.out (a + L / 4 * 2 - 1 + t) (a + J) x2 x1) (below_drew (RowKit.Below.refl _ _)))
    have HB3 := Aside0.mk (below_drew ((HB2.out.setCell (p := ⟨g,a + L / 4 * 2 - 1 + t,none⟩) hgb (.int .u64 x2)).setCell (p := ⟨g,a + J,none⟩) hgb (.int .u64 x1)))
    have HS3 := Aside0.mk (blk_drew (blk_far (p := ⟨g,a + J,none⟩) (blk_far (p := ⟨g,a + L / 4 * 2 - 1 + t,none⟩) HS2.out (show br ≠ g by omega) (.int .u64 x2)) (show br ≠ g by omega) (.int .u64 x1)))
    have HLn := Aside0.mk (show ((dk.set (a + L / 4 * 2 - 1 + t) x2).set (a + J) x1).length = l.length by rw [slen];exact hdl)
    have HKt := Aside0.mk (show 3 - (t + 1) + (t + 1) = 3 by omega)
    have EX := Aside0.mk (And.intro ex1 ex2)
    have hX2 := HX'.out
    clear hdl ex1 ex2 hI hI2
    by_cases hEq : a + L / 4 * 2 - 1 + t = a + J
    ·have h12 : x1 = x2 := by rw [EX.out.1,EX.out.2,hEq]
     subst h12
     rw [hEq] at HO3 HB3 HS3 HLn HNX
     go_region
     all_goals go_wp2
     go_roundg (3 - (t + 1))
     case measure => have := HK.out;omega
     case rel => exact ⟨t + 1,xorNext r,_,by congr 1 <;> omega,HKt,⟨HNX.out.1,HNX.out.2,HLn.out⟩,HO3,by rw [hX2] at HS3;exact HS3,HB3⟩
    ·go_region
     all_goals go_wp2
     go_roundg (3 - (t + 1))
     case measure => have := HK.out;omega
     case rel => exact ⟨t + 1,xorNext r,_,by congr 1 <;> omega,HKt,⟨HNX.out.1,HNX.out.2,HLn.out⟩,HO3,by rw [hX2] at HS3;exact HS3,HB3⟩
  ·have ht3 : t = 3 := by have := HK.out;omega
   subst ht3
   have q1 : decide (((a + L / 4 * 2 - 1 + 3 : Nat) : Int) ≤ (a : Int) + (L : Int) / 4 * 2 + 1) = false := decide_eq_false (by omega)
   go_wp2_with fail
   first|go_end0|((try simp only [Exit.inBlock,Exit.then]);refine bodyPost_ret (results_none rfl _ _ _) rfl ?_)|go_ret
   refine ⟨rfl,⟨?_⟩,HB⟩
   have hl3 : (bpN a L M (a + L / 4 * 2 - 1) (UInt64.ofNat L,l.toArray) 3).2.toList = dk := by rw [HR.out.2.1]
   rw [hl3]
   exact HO.out
theorem peq_range (a : Nat) : ∀ (n i j : Nat) (d : Array Int),j + 1 ≤ i + n → 1 ≤ i → i ≤ (partEqLoop ltInt a i j d).1 ∧ (partEqLoop ltInt a i j d).1 ≤ max i (j + 1) ∧ (partEqLoop ltInt a i j d).2.size = d.size := by
 intro n
 induction n with
 | zero =>
  intro i j d hn hi
  have h1 : scanUp (fun x => !ltInt d[a]! x) d j i = i := su_stop _ _ _ _ (by omega)
  have h2 : scanDown (fun x => ltInt d[a]! x) d i j = j := sd_stop _ _ _ _ hi (by omega)
  rw [partEqLoop_eq a i j i j _ h1.symm h2.symm hi,if_pos (by omega)]
  exact ⟨Nat.le_refl _,Nat.le_max_left _ _,rfl⟩
 | succ n ih =>
  intro i j d hn hi
  obtain ⟨i2,hi2⟩ : ∃ x,x = scanUp (fun x => !ltInt d[a]! x) d j i := ⟨_,rfl⟩
  obtain ⟨j2,hj2⟩ : ∃ x,x = scanDown (fun x => ltInt d[a]! x) d i2 j := ⟨_,rfl⟩
  have b1 := su_ge (fun x => !ltInt d[a]! x) d j (j + 1) i (by omega)
  rw [← hi2] at b1
  have b2 := (sd_le (fun x => ltInt d[a]! x) d i2 (Nat.le_trans hi b1.1) j).1
  rw [← hj2] at b2
  rw [partEqLoop_eq a i j i2 j2 _ hi2 hj2 hi]
  clear hi2 hj2
  by_cases hgt : i2 > j2
  ·rw [if_pos hgt];exact ⟨b1.1,b1.2,rfl⟩
  ·rw [if_neg hgt]
   obtain ⟨x1,x2,x3⟩ := ih (i2 + 1) (j2 - 1) (swp d i2 j2) (by omega) (by omega)
   exact ⟨by omega,by omega,by rw [x3,size_swp]⟩
theorem swo : SWO ltInt := swo_ltInt
def pdqB (d : Array Int) (a b lim : Nat) (wb wp : Bool) (pv : Nat) : Array Int :=
 if (decide (a > 0) && !ltInt d[a - 1]! d[pv]!) = true then pdq ltInt (partitionEqual ltInt d a b pv).2 (partitionEqual ltInt d a b pv).1 b lim wb wp
 else if (Go.Sort.partition ltInt d a b pv).1 - a < b - (Go.Sort.partition ltInt d a b pv).1 then
  pdq ltInt (pdq ltInt (Go.Sort.partition ltInt d a b pv).2.2 a (Go.Sort.partition ltInt d a b pv).1 lim true true) ((Go.Sort.partition ltInt d a b pv).1 + 1) b lim (decide ((Go.Sort.partition ltInt d a b pv).1 - a ≥ (b - a) / 8)) (Go.Sort.partition ltInt d a b pv).2.1
 else pdq ltInt (pdq ltInt (Go.Sort.partition ltInt d a b pv).2.2 ((Go.Sort.partition ltInt d a b pv).1 + 1) b lim true true) a (Go.Sort.partition ltInt d a b pv).1 lim (decide (b - (Go.Sort.partition ltInt d a b pv).1 ≥ (b - a) / 8)) (Go.Sort.partition ltInt d a b pv).2.1
theorem choose_hint (d : Array Int) (a b : Nat) (h1 : 12 < b - a) (h2 : b - a < 50) : (choosePivot ltInt d a b).2 ≠ .decreasing := by
 rw [choose_small d a b h1 h2]
 dsimp only
 split <;> exact fun h => by cases h
theorem pdq_step (d : Array Int) (a b limit : Nat) (wb wp : Bool) (h1 : 12 < b - a) (h2 : b - a < 50) (h3 : limit ≠ 0) (d1 : Array Int) (hd1 : d1 = if wb = true then d else breakPatterns d a b) (hb : b ≤ d1.size) (lim : Nat) (hlim : lim = if wb = true then limit else limit - 1) :
  pdq ltInt d a b limit wb wp = if (wb && wp && decide ((choosePivot ltInt d1 a b).2 = .increasing) && decide (scanSorted ltInt d1 b (a + 1) = b)) = true then d1 else pdqB d1 a b lim wb wp (choosePivot ltInt d1 a b).1 := by
 have hr := choosePivot_holds ltInt d1 a b (by omega)
 have hpt := partition_holds ltInt swo d1 a b (choosePivot ltInt d1 a b).1 hr.1 hr.2 hb
 have hpe : a + 1 ≤ (partitionEqual ltInt d1 a b (choosePivot ltInt d1 a b).1).1 ∧ (partitionEqual ltInt d1 a b (choosePivot ltInt d1 a b).1).1 ≤ b := by
  have := peq_range a b (a + 1) (b - 1) (swp d1 a (choosePivot ltInt d1 a b).1) (by omega) (by omega)
  unfold partitionEqual
  omega
 rw [pdq,if_neg (by omega),if_neg h3]
 have e1 : (if (!wb) = true then breakPatterns d a b else d) = d1 := by rw [hd1];cases wb <;> rfl
 have e2 : (if (!wb) = true then limit - 1 else limit) = lim := by rw [hlim];cases wb <;> rfl
 simp only [e1,e2,if_neg (choose_hint d1 a b h1 h2),partialIns_small a b d1 h2]
 have e3 : ∀ c : Bool,(if c = true then (d1,decide (scanSorted ltInt d1 b (a + 1) = b)) else (d1,false)) = (d1,c && decide (scanSorted ltInt d1 b (a + 1) = b)) := fun c => by cases c <;> rfl
 simp only [e3]
 unfold pdqB
 simp only [dif_pos (show a < (partitionEqual ltInt d1 a b (choosePivot ltInt d1 a b).1).1 ∧ (partitionEqual ltInt d1 a b (choosePivot ltInt d1 a b).1).1 ≤ b from ⟨hpe.1,hpe.2⟩),dif_pos (show a ≤ (Go.Sort.partition ltInt d1 a b (choosePivot ltInt d1 a b).1).1 ∧ (Go.Sort.partition ltInt d1 a b (choosePivot ltInt d1 a b).1).1 < b from ⟨hpt.1,hpt.2.1⟩)]
end Go.Proofs.Ytmdoaijkaaaglaa.Srt
end
