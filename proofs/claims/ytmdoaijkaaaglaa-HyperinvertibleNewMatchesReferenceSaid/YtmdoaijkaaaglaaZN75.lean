/- Part 5 of the proof's texts, joined in build order. -/
import Derived.Sort.AssemblyPlain
import Derived.Test.YtmdoaijkaaaglaaZN71
import Derived.Test.YtmdoaijkaaaglaaZN72
import Derived.Test.YtmdoaijkaaaglaaZN73
import Derived.Test.YtmdoaijkaaaglaaZN74
import Derived.Lib.Hide
import Derived.Lib.SliceRun
import Derived.Sort.LotD5
import Derived.Laws.Bits64
import Derived.Sort.Row
import Derived.RegionTactic
import Derived.Deep.RegionHeld3
set_option linter.unusedVariables false
set_option linter.unusedSimpArgs false
section
namespace Go.Proofs.Ytmdoaijkaaaglaa.Srt
open Go.RowKit Go.Proofs.Ytmdoaijkaaaglaa.Pr Go.Proofs.YtmdoaijkaaaglaaW.PrintWords Go.Proofs.YtmdoaijkaaaglaaW.PrintLast Go.Proofs.YtmdoaijkaaaglaaW.PrintMore Go.Sort
theorem sless (a b : Int) : cmp_Less_uint64.f a b = some (ltInt a b) := by
 unfold cmp_Less_uint64.f cmp_isNaN_uint64.f ltInt
 simp
theorem sw64 {n : Int} (h0 : -9223372036854775808 ≤ n) (h1 : n < 9223372036854775808) : wrap64 n = n := by unfold wrap64;omega
theorem srd (l : List Int) (i : Nat) : rd l (i : Int) = l.toArray[i]! := by
 unfold rd
 rw [Int.toNat_natCast]
 simp [List.getD_eq_getElem?_getD]
theorem sswp (l : List Int) (i j : Nat) : ((l.set i (rd l (j : Int))).set j (rd l (i : Int))).toArray = swp l.toArray i j := by
 rw [srd,srd];unfold swp;simp
theorem slen (l : List Int) (i j : Nat) (x y : Int) : ((l.set i x).set j y).length = l.length := by simp
theorem tl_swp (l : List Int) (i j : Nat) : (swp l.toArray i j).toList = (l.set i (rd l (j : Int))).set j (rd l (i : Int)) := by rw [← sswp]
section
variable {R : List Int}
theorem ins_l1 (a b i : Nat) (hb : b < 1099511627776) (hi : i < b) : ∀ (j : Nat) (l : List Int),j ≤ i → b ≤ l.length → l.length < 1099511627776 →
  Ev (fun k => slices_insertionSortOrdered_uint64.l0 k (insInner ltInt a j l.toArray).toList (a : Int) (b : Int) ((i + 1 : Nat) : Int)) R →
  Ev (fun k => slices_insertionSortOrdered_uint64.l1 k l (a : Int) (b : Int) (i : Int) (j : Int)) R
 | 0,l,hj,hbl,hl,h => by
  refine Ev.step (fun k => ?_) h
  simp only [slices_insertionSortOrdered_uint64.l1]
  rw [if_neg (by omega),sw64 (by omega) (by omega)]
  simp only [insInner]
  rfl
 | j + 1,l,hj,hbl,hl,h => by
  have e1 : wrap64 (((j + 1 : Nat) : Int) - 1) = (j : Int) := by rw [sw64 (by omega) (by omega)];omega
  by_cases hja : a < j + 1
  ·by_cases hlt : ltInt (l.toArray[j + 1]!) (l.toArray[j]!) = true
   ·have hs : insInner ltInt a (j + 1) l.toArray = insInner ltInt a j (swp l.toArray (j + 1) j) := by
     rw [insInner,if_pos (by rw [hlt,decide_eq_true (show j + 1 > a from hja)];rfl)]
    rw [hs,← sswp] at h
    have ih := ins_l1 a b i hb hi j ((l.set (j + 1) (rd l (j : Int))).set j (rd l ((j + 1 : Nat) : Int))) (by omega) (by simpa using hbl) (by simpa using hl) h
    refine Ev.step (fun k => ?_) ih
    simp only [slices_insertionSortOrdered_uint64.l1]
    rw [e1,if_pos (by omega),if_pos (by omega),if_pos (by omega),if_pos (by omega),if_pos (by omega),sless,srd,srd,hlt,Option.bind_some,if_pos rfl]
    rfl
   ·have hs : insInner ltInt a (j + 1) l.toArray = l.toArray := by
     rw [insInner,if_neg (fun h => hlt (Bool.and_eq_true_iff.1 h).2)]
    rw [hs] at h
    refine Ev.step (fun k => ?_) h
    simp only [slices_insertionSortOrdered_uint64.l1]
    rw [e1,if_pos (by omega),if_pos (by omega),if_pos (by omega),if_pos (by omega),if_pos (by omega),sless,srd,srd,Option.bind_some,if_neg hlt,sw64 (by omega) (by omega)]
    rfl
  ·have hs : insInner ltInt a (j + 1) l.toArray = l.toArray := by
    rw [insInner,if_neg (fun h => hja (of_decide_eq_true (Bool.and_eq_true_iff.1 h).1))]
   rw [hs] at h
   refine Ev.step (fun k => ?_) h
   simp only [slices_insertionSortOrdered_uint64.l1]
   rw [if_neg (by omega),sw64 (by omega) (by omega)]
   rfl
theorem insInner_size (a : Nat) : ∀ (j : Nat) (d : Array Int),(insInner ltInt a j d).size = d.size
 | 0,d => rfl
 | j + 1,d => by
  rw [insInner]
  split
  ·rw [insInner_size a j,size_swp]
  ·rfl
theorem ins_l0 (a b : Nat) (hb : b < 1099511627776) : ∀ (n i : Nat) (l : List Int),n = b - i → b ≤ l.length → l.length < 1099511627776 →
  Ev (fun k => slices_insertionSortOrdered_uint64.l0 k l (a : Int) (b : Int) (i : Int)) (insOuter ltInt a b i l.toArray).toList
 | 0,i,l,hn,hbl,hl => by
  rw [insOuter,if_neg (by omega)]
  refine Ev.step (fun k => ?_) (Ev.now _)
  simp only [slices_insertionSortOrdered_uint64.l0]
  rw [if_neg (by omega)]
 | n + 1,i,l,hn,hbl,hl => by
  rw [insOuter,if_pos (by omega)]
  have hsz : (insInner ltInt a i l.toArray).toList.length = l.length := by rw [Array.length_toList,insInner_size];simp
  have ih := ins_l0 a b hb n (i + 1) (insInner ltInt a i l.toArray).toList (by omega) (by omega) (by omega)
  rw [Array.toArray_toList] at ih
  refine Ev.step (fun k => ?_) (ins_l1 a b i hb (by omega) i l (Nat.le_refl _) hbl hl ih)
  simp only [slices_insertionSortOrdered_uint64.l0]
  rw [if_pos (by omega)]
theorem ins_ev (a b : Nat) (l : List Int) (hab : a ≤ b) (hbl : b ≤ l.length) (hl : l.length < 1099511627776) :
  Ev (fun k => slices_insertionSortOrdered_uint64.f k l (a : Int) (b : Int)) (insertionSort ltInt l.toArray a b).toList := by
 have h := ins_l0 a b (by omega) _ (a + 1) l rfl hbl hl
 unfold slices_insertionSortOrdered_uint64.f insertionSort
 rw [sw64 (by omega) (by omega)]
 exact h
theorem siftDown_size (hi first : Nat) : ∀ (n root : Nat) (d : Array Int),n = hi - root → (siftDown ltInt hi first root d).size = d.size := by
 intro n
 induction n using Nat.strongRecOn with
 | _ n ih =>
  intro root d hn
  rw [siftDown]
  split
  ·rfl
  ·split
   ·split
    ·rfl
    ·split
     ·rw [ih (hi - (2 * root + 2)) (by omega) (2 * root + 2) _ rfl,size_swp]
     ·rfl
   ·split
    ·rfl
    ·rw [ih (hi - (2 * root + 1)) (by omega) (2 * root + 1) _ rfl,size_swp]
def childOf (hi first root : Nat) (d : Array Int) : Nat := if (decide (2 * root + 1 + 1 < hi) && ltInt d[first + (2 * root + 1)]! d[first + (2 * root + 1) + 1]!) = true then 2 * root + 2 else 2 * root + 1
theorem siftDown_eq (hi first root : Nat) (d : Array Int) : siftDown ltInt hi first root d =
  if 2 * root + 1 ≥ hi then d else (if ltInt d[first + root]! d[first + childOf hi first root d]! = true then siftDown ltInt hi first (childOf hi first root d) (swp d (first + root) (first + childOf hi first root d)) else d) := by
 rw [siftDown]
 split
 ·rfl
 ·unfold childOf
  by_cases h : (decide (2 * root + 1 + 1 < hi) && ltInt d[first + (2 * root + 1)]! d[first + (2 * root + 1) + 1]!) = true
  ·rw [if_pos h,if_pos h]
   have h2 : 2 * root + 2 < hi := of_decide_eq_true (Bool.and_eq_true_iff.1 h).1
   cases hc : ltInt d[first + root]! d[first + (2 * root + 2)]! with
   | true => rw [if_neg (by decide),dif_pos h2,if_pos rfl]
   | false => rw [if_pos (by decide),if_neg (by decide)]
  ·rw [if_neg h,if_neg h]
   cases hc : ltInt d[first + root]! d[first + (2 * root + 1)]! with
   | true => rw [if_neg (by decide),if_pos rfl]
   | false => rw [if_pos (by decide),if_neg (by decide)]
theorem sift_j1 (hi first root c : Nat) (f : Bool) (l : List Int) (hc : c = if f = true then 2 * root + 2 else 2 * root + 1) (hlt : c < hi) (hfl : first + hi ≤ l.length) (hl : l.length < 1099511627776)
  (hy : ltInt l.toArray[first + root]! l.toArray[first + c]! = true → Ev (fun k => slices_siftDownOrdered_uint64.l0 k ((l.set (first + root) (rd l ((first + c : Nat) : Int))).set (first + c) (rd l ((first + root : Nat) : Int))) (hi : Int) (first : Int) (c : Int)) R)
  (hn : ltInt l.toArray[first + root]! l.toArray[first + c]! = false → R = l) :
  Ev (fun k => slices_siftDownOrdered_uint64.j1 k l (hi : Int) (first : Int) (root : Int) ((2 * root + 1 : Nat) : Int) f) R := by
 have hr : root < c := by split at hc <;> omega
 have e5 : wrap64 ((first : Int) + (root : Int)) = ((first + root : Nat) : Int) := by rw [sw64 (by omega) (by omega)];omega
 have e6 : wrap64 ((first : Int) + (c : Int)) = ((first + c : Nat) : Int) := by rw [sw64 (by omega) (by omega)];omega
 cases f with
 | true =>
  have hc2 : c = 2 * root + 2 := by rw [hc,if_pos rfl]
  have e2 : wrap64 (((2 * root + 1 : Nat) : Int) + 1) = (c : Int) := by rw [sw64 (by omega) (by omega)];omega
  cases hb : ltInt l.toArray[first + root]! l.toArray[first + c]! with
  | false =>
   rw [hn hb]
   refine Ev.step (fun k => ?_) (Ev.now _)
   simp only [slices_siftDownOrdered_uint64.j1]
   rw [if_pos trivial,e2,e5,e6,if_pos (by omega),if_pos (by omega),if_pos (by omega),if_pos (by omega),sless,srd,srd,hb,Option.bind_some,if_neg (by decide)]
  | true =>
   refine Ev.step (fun k => ?_) (hy hb)
   simp only [slices_siftDownOrdered_uint64.j1]
   rw [if_pos trivial,e2,e5,e6,if_pos (by omega),if_pos (by omega),if_pos (by omega),if_pos (by omega),sless,show ltInt (rd l ((first + root : Nat) : Int)) (rd l ((first + c : Nat) : Int)) = true from by rw [srd,srd];exact hb,Option.bind_some,if_pos rfl]
   rfl
 | false =>
  have hc2 : ((2 * root + 1 : Nat) : Int) = (c : Int) := by rw [hc,if_neg (by decide)]
  rw [hc2]
  cases hb : ltInt l.toArray[first + root]! l.toArray[first + c]! with
  | false =>
   rw [hn hb]
   refine Ev.step (fun k => ?_) (Ev.now _)
   simp only [slices_siftDownOrdered_uint64.j1]
   rw [if_neg (by decide),e5,e6,if_pos (by omega),if_pos (by omega),if_pos (by omega),if_pos (by omega),sless,srd,srd,hb,Option.bind_some,if_neg (by decide)]
  | true =>
   refine Ev.step (fun k => ?_) (hy hb)
   simp only [slices_siftDownOrdered_uint64.j1]
   rw [if_neg (by decide),e5,e6,if_pos (by omega),if_pos (by omega),if_pos (by omega),if_pos (by omega),sless,show ltInt (rd l ((first + root : Nat) : Int)) (rd l ((first + c : Nat) : Int)) = true from by rw [srd,srd];exact hb,Option.bind_some,if_pos rfl]
   rfl
theorem sift_l0 (hi first : Nat) : ∀ (n root : Nat) (l : List Int),hi ≤ root + n → first + hi ≤ l.length → l.length < 1099511627776 → root < 1099511627776 →
  Ev (fun k => slices_siftDownOrdered_uint64.l0 k l (hi : Int) (first : Int) (root : Int)) (siftDown ltInt hi first root l.toArray).toList
 | 0,root,l,hn,hfl,hl,hr => by
  have e1 : wrap64 (wrap64 (2 * (root : Int)) + 1) = ((2 * root + 1 : Nat) : Int) := by rw [sw64 (n := 2 * (root : Int)) (by omega) (by omega),sw64 (by omega) (by omega)];omega
  rw [siftDown_eq,if_pos (by omega)]
  refine Ev.step (fun k => ?_) (Ev.now _)
  simp only [slices_siftDownOrdered_uint64.l0,e1]
  rw [if_pos (by omega)]
 | n + 1,root,l,hn,hfl,hl,hr => by
  have e1 : wrap64 (wrap64 (2 * (root : Int)) + 1) = ((2 * root + 1 : Nat) : Int) := by rw [sw64 (n := 2 * (root : Int)) (by omega) (by omega),sw64 (by omega) (by omega)];omega
  rw [siftDown_eq]
  by_cases h1 : 2 * root + 1 ≥ hi
  ·rw [if_pos h1]
   refine Ev.step (fun k => ?_) (Ev.now _)
   simp only [slices_siftDownOrdered_uint64.l0,e1]
   rw [if_pos (by omega)]
  ·rw [if_neg h1]
   have e2 : wrap64 (((2 * root + 1 : Nat) : Int) + 1) = ((2 * root + 2 : Nat) : Int) := by rw [sw64 (by omega) (by omega)];omega
   have hj : ∀ f : Bool,childOf hi first root l.toArray = (if f = true then 2 * root + 2 else 2 * root + 1) → (f = true → 2 * root + 2 < hi) → Ev (fun k => slices_siftDownOrdered_uint64.j1 k l (hi : Int) (first : Int) (root : Int) ((2 * root + 1 : Nat) : Int) f)
     (if ltInt l.toArray[first + root]! l.toArray[first + childOf hi first root l.toArray]! = true then siftDown ltInt hi first (childOf hi first root l.toArray) (swp l.toArray (first + root) (first + childOf hi first root l.toArray)) else l.toArray).toList := by
    intro f hc hf
    have hcl : childOf hi first root l.toArray < hi ∧ root < childOf hi first root l.toArray := by
     rw [hc]
     cases f with
     | true => have := hf rfl;rw [if_pos rfl];omega
     | false => rw [if_neg (by decide)];omega
    refine sift_j1 hi first root _ f l hc hcl.1 hfl hl (fun hb => ?_) (fun hb => ?_)
    ·rw [if_pos hb,← sswp]
     exact sift_l0 hi first n _ _ (by omega) (by rw [slen];exact hfl) (by rw [slen];exact hl) (by omega)
    ·rw [if_neg (by rw [hb];decide)]
   by_cases h2 : 2 * root + 1 + 1 < hi
   ·have e3 : wrap64 ((first : Int) + ((2 * root + 1 : Nat) : Int)) = ((first + (2 * root + 1) : Nat) : Int) := by rw [sw64 (by omega) (by omega)];omega
    have e4 : wrap64 (((first + (2 * root + 1) : Nat) : Int) + 1) = ((first + (2 * root + 1) + 1 : Nat) : Int) := by rw [sw64 (by omega) (by omega)];omega
    have hj' := hj (ltInt l.toArray[first + (2 * root + 1)]! l.toArray[first + (2 * root + 1) + 1]!) (by unfold childOf;rw [decide_eq_true h2,Bool.true_and]) (fun _ => by omega)
    refine Ev.step (fun k => ?_) hj'
    simp only [slices_siftDownOrdered_uint64.l0,e1,e2,e3,e4]
    rw [if_neg (by omega),if_pos (by omega),if_pos (by omega),if_pos (by omega),if_pos (by omega),if_pos (by omega),sless,srd,srd,Option.bind_some]
   ·have hj' := hj false (by unfold childOf;rw [decide_eq_false h2,Bool.false_and]) (fun h => by cases h)
    refine Ev.step (fun k => ?_) hj'
    simp only [slices_siftDownOrdered_uint64.l0,e1,e2]
    rw [if_neg (by omega),if_neg (by omega)]
theorem sift_ev (hi first root : Nat) (l : List Int) (hfl : first + hi ≤ l.length) (hl : l.length < 1099511627776) (hr : root < 1099511627776) :
  Ev (fun k => slices_siftDownOrdered_uint64.f k l (root : Int) (hi : Int) (first : Int)) (siftDown ltInt hi first root l.toArray).toList := sift_l0 hi first hi root l (by omega) hfl hl hr
theorem toL (d : Array Int) : d.toList.toArray = d := rfl
theorem sift_len (hi first root : Nat) (l : List Int) : (siftDown ltInt hi first root l.toArray).toList.length = l.length := by
 rw [Array.length_toList,siftDown_size hi first _ root _ rfl];simp
theorem pop_l1 (a : Nat) : ∀ (n : Nat) (l : List Int),a + n ≤ l.length → l.length < 1099511627776 →
  Ev (fun k => slices_heapSortOrdered_uint64.l1 k l (a : Int) 0 ((n : Int) - 1)) (heapPop ltInt a n l.toArray).toList
 | 0,l,h,hl => by
  refine Ev.step (fun k => ?_) (Ev.now _)
  simp only [slices_heapSortOrdered_uint64.l1]
  rw [if_neg (by omega)]
  rfl
 | n + 1,l,h,hl => by
  have e1 : ((n + 1 : Nat) : Int) - 1 = (n : Int) := by omega
  have e2 : wrap64 ((a : Int) + (n : Int)) = ((a + n : Nat) : Int) := by rw [sw64 (by omega) (by omega)];omega
  have e3 : wrap64 ((n : Int) - 1) = (n : Int) - 1 := sw64 (by omega) (by omega)
  rw [heapPop,← sswp]
  have hs := sift_ev n a 0 ((l.set a (rd l ((a + n : Nat) : Int))).set (a + n) (rd l (a : Int))) (by rw [slen];omega) (by rw [slen];exact hl) (by omega)
  have ih := pop_l1 a n (siftDown ltInt n a 0 ((l.set a (rd l ((a + n : Nat) : Int))).set (a + n) (rd l (a : Int))).toArray).toList (by rw [sift_len,slen];omega) (by rw [sift_len,slen];exact hl)
  rw [toL] at ih
  refine Ev.step (f := fun k => (slices_siftDownOrdered_uint64.f k ((l.set a (rd l ((a + n : Nat) : Int))).set (a + n) (rd l (a : Int))) 0 (n : Int) (a : Int)).bind fun t => slices_heapSortOrdered_uint64.l1 k t (a : Int) 0 ((n : Int) - 1)) (fun k => ?_) (Ev.bind hs ih)
  simp only [slices_heapSortOrdered_uint64.l1,e1,e2,e3]
  rw [if_pos (by omega),if_pos (by omega),if_pos (by omega),if_pos (by omega),if_pos (by omega)]
  rfl
theorem build_l0 (a hi : Nat) (hhi : 0 < hi) : ∀ (n : Nat) (l : List Int),n ≤ hi → a + hi ≤ l.length → l.length < 1099511627776 →
  Ev (fun k => slices_heapSortOrdered_uint64.l0 k l (a : Int) 0 (hi : Int) ((n : Int) - 1)) (heapPop ltInt a hi (heapBuild ltInt hi a n l.toArray)).toList
 | 0,l,hn,h,hl => by
  have e3 : wrap64 ((hi : Int) - 1) = (hi : Int) - 1 := sw64 (by omega) (by omega)
  refine Ev.step (fun k => ?_) (pop_l1 a hi l h hl)
  simp only [slices_heapSortOrdered_uint64.l0]
  rw [if_neg (by omega),e3]
 | n + 1,l,hn,h,hl => by
  have e1 : ((n + 1 : Nat) : Int) - 1 = (n : Int) := by omega
  have e3 : wrap64 ((n : Int) - 1) = (n : Int) - 1 := sw64 (by omega) (by omega)
  rw [heapBuild]
  have hs := sift_ev hi a n l h hl (by omega)
  have ih := build_l0 a hi hhi n (siftDown ltInt hi a n l.toArray).toList (by omega) (by rw [sift_len];exact h) (by rw [sift_len];exact hl)
  rw [toL] at ih
  refine Ev.step (f := fun k => (slices_siftDownOrdered_uint64.f k l (n : Int) (hi : Int) (a : Int)).bind fun t => slices_heapSortOrdered_uint64.l0 k t (a : Int) 0 (hi : Int) ((n : Int) - 1)) (fun k => ?_) (Ev.bind hs ih)
  simp only [slices_heapSortOrdered_uint64.l0,e1,e3]
  rw [if_pos (by omega)]
theorem heap_ev (a b : Nat) (l : List Int) (hab : a < b) (hbl : b ≤ l.length) (hl : l.length < 1099511627776) :
  Ev (fun k => slices_heapSortOrdered_uint64.f k l (a : Int) (b : Int)) (heapSort ltInt l.toArray a b).toList := by
 have h := build_l0 a (b - a) (by omega) ((b - a - 1) / 2 + 1) l (by omega) (by omega) hl
 have e1 : wrap64 ((b : Int) - (a : Int)) = ((b - a : Nat) : Int) := by rw [sw64 (by omega) (by omega)];omega
 have e2 : wrap64 (Int.tdiv (wrap64 (((b - a : Nat) : Int) - 1)) 2) = (((b - a - 1) / 2 + 1 : Nat) : Int) - 1 := by
  rw [sw64 (n := ((b - a : Nat) : Int) - 1) (by omega) (by omega),Int.tdiv_eq_ediv_of_nonneg (by omega),sw64 (by omega) (by omega)];omega
 unfold slices_heapSortOrdered_uint64.f heapSort
 rw [e1,e2]
 exact h
theorem pins_l1 (a b : Nat) (hb : b < 1099511627776) (h50 : b - a < 50) : ∀ (n i : Nat) (l : List Int) (q : Int),b ≤ i + n → 1 ≤ i → i ≤ b → b ≤ l.length → a ≤ b →
  Ev (fun k => slices_partialInsertionSortOrdered_uint64.l1 k l (a : Int) (b : Int) (i : Int) q) (decide (scanSorted ltInt l.toArray b i = b),l)
 | n,i,l,q,hn,hi,hib,hbl,hab => by
  have hend : ∀ i : Nat,i ≤ b → Ev (fun k => slices_partialInsertionSortOrdered_uint64.j2 k l (a : Int) (b : Int) (i : Int) q) (decide (i = b),l) := by
   intro i hi
   refine Ev.step (fun k => ?_) (Ev.now _)
   simp only [slices_partialInsertionSortOrdered_uint64.j2]
   by_cases h : i = b
   ·rw [if_pos (by omega),decide_eq_true h]
   ·rw [if_neg (by omega),if_pos (by rw [sw64 (by omega) (by omega)];omega),decide_eq_false h]
  rw [scanSorted]
  by_cases hlt : i < b
  ·have e1 : wrap64 ((i : Int) - 1) = ((i - 1 : Nat) : Int) := by rw [sw64 (by omega) (by omega)];omega
   cases hc : ltInt l.toArray[i]! l.toArray[i - 1]! with
   | true =>
    rw [if_neg (by rw [Bool.not_true,Bool.and_false];decide)]
    refine Ev.step (fun k => ?_) (hend i hib)
    simp only [slices_partialInsertionSortOrdered_uint64.l1,e1]
    rw [if_pos (by omega),if_pos (by omega),if_pos (by omega),if_pos (by omega),if_pos (by omega),sless,srd,srd,hc,Option.bind_some,if_pos rfl]
   | false =>
    rw [if_pos (by rw [decide_eq_true hlt];rfl)]
    cases n with
    | zero => omega
    | succ n =>
     have e2 : wrap64 ((i : Int) + 1) = ((i + 1 : Nat) : Int) := by rw [sw64 (by omega) (by omega)];omega
     refine Ev.step (fun k => ?_) (pins_l1 a b hb h50 n (i + 1) l q (by omega) (by omega) (by omega) hbl hab)
     simp only [slices_partialInsertionSortOrdered_uint64.l1,e1,e2]
     rw [if_pos (by omega),if_pos (by omega),if_pos (by omega),if_pos (by omega),if_pos (by omega),sless,srd,srd,hc,Option.bind_some,if_neg (by decide)]
  ·rw [if_neg (fun h => hlt (of_decide_eq_true (Bool.and_eq_true_iff.1 h).1))]
   refine Ev.step (fun k => ?_) (hend i hib)
   simp only [slices_partialInsertionSortOrdered_uint64.l1]
   rw [if_neg (by omega)]
theorem partialIns_small (a b : Nat) (d : Array Int) (h50 : b - a < 50) : partialInsertionSort ltInt d a b = (d,decide (scanSorted ltInt d b (a + 1) = b)) := by
 unfold partialInsertionSort
 rw [partialIns]
 by_cases h : scanSorted ltInt d b (a + 1) = b
 ·rw [if_pos h,decide_eq_true h]
 ·rw [if_neg h,if_pos h50,decide_eq_false h]
theorem pins_ev (a b : Nat) (l : List Int) (hab : a < b) (hbl : b ≤ l.length) (hl : l.length < 1099511627776) (h50 : b - a < 50) :
  Ev (fun k => slices_partialInsertionSortOrdered_uint64.f k l (a : Int) (b : Int)) ((partialInsertionSort ltInt l.toArray a b).2,(partialInsertionSort ltInt l.toArray a b).1.toList) := by
 rw [partialIns_small a b _ h50]
 have e2 : wrap64 ((a : Int) + 1) = ((a + 1 : Nat) : Int) := by rw [sw64 (by omega) (by omega)];omega
 have h := pins_l1 a b (by omega) h50 b (a + 1) l 0 (by omega) (by omega) (by omega) hbl (by omega)
 unfold slices_partialInsertionSortOrdered_uint64.f
 rw [e2]
 refine Ev.step (fun k => ?_) h
 simp only [slices_partialInsertionSortOrdered_uint64.l0]
 rw [if_pos (by omega)]
theorem su_step (p : Int → Bool) (d : Array Int) (j i : Nat) (h : i ≤ j) (hp : p d[i]! = true) : scanUp p d j i = scanUp p d j (i + 1) := by
 rw [scanUp,if_pos (by rw [decide_eq_true h,hp];rfl)]
theorem su_stop (p : Int → Bool) (d : Array Int) (j i : Nat) (h : ¬ (i ≤ j ∧ p d[i]! = true)) : scanUp p d j i = i := by
 rw [scanUp,if_neg (fun hx => h ⟨of_decide_eq_true (Bool.and_eq_true_iff.1 hx).1,(Bool.and_eq_true_iff.1 hx).2⟩)]
theorem sd_step (p : Int → Bool) (d : Array Int) (i j : Nat) (h : i ≤ j + 1) (hp : p d[j + 1]! = true) : scanDown p d i (j + 1) = scanDown p d i j := by
 rw [scanDown,if_pos (by rw [decide_eq_true h,hp];rfl)]
theorem sd_stop (p : Int → Bool) (d : Array Int) (i j : Nat) (hi : 1 ≤ i) (h : ¬ (i ≤ j ∧ p d[j]! = true)) : scanDown p d i j = j := by
 cases j with
 | zero => rw [scanDown]
 | succ j => rw [scanDown,if_neg (fun hx => h ⟨of_decide_eq_true (Bool.and_eq_true_iff.1 hx).1,(Bool.and_eq_true_iff.1 hx).2⟩)]
theorem su_ge (p : Int → Bool) (d : Array Int) (j : Nat) : ∀ (n i : Nat),j + 1 ≤ i + n → i ≤ scanUp p d j i ∧ scanUp p d j i ≤ max i (j + 1)
 | 0,i,hn => by rw [su_stop p d j i (by omega)];omega
 | n + 1,i,hn => by
  by_cases h : i ≤ j ∧ p d[i]! = true
  ·rw [su_step p d j i h.1 h.2]
   have := su_ge p d j n (i + 1) (by omega)
   omega
  ·rw [su_stop p d j i h];omega
theorem sd_le (p : Int → Bool) (d : Array Int) (i : Nat) (hi : 1 ≤ i) : ∀ (j : Nat),scanDown p d i j ≤ j ∧ (i ≤ j → i - 1 ≤ scanDown p d i j)
 | 0 => by rw [sd_stop p d i 0 hi (by omega)];omega
 | j + 1 => by
  by_cases h : i ≤ j + 1 ∧ p d[j + 1]! = true
  ·rw [sd_step p d i j h.1 h.2]
   have := sd_le p d i hi j
   by_cases h2 : i ≤ j
   ·omega
   ·have h3 : scanDown p d i j = j := sd_stop p d i j hi (by omega)
    omega
  ·rw [sd_stop p d i (j + 1) hi h];omega
theorem p_less (l : List Int) (i a : Nat) : ltInt (rd l (i : Int)) (rd l (a : Int)) = ltInt l.toArray[i]! l.toArray[a]! := by rw [srd,srd]
theorem part_l1 {R : Int × Bool × List Int} (a i : Nat) (hi : 1 ≤ i) (l : List Int) (ha : a < l.length) (hl : l.length < 1099511627776) : ∀ (j : Nat),j < l.length →
  Ev (fun k => slices_partitionOrdered_uint64.j3 k l (a : Int) (i : Int) ((scanDown (fun x => !ltInt x l.toArray[a]!) l.toArray i j : Nat) : Int)) R →
  Ev (fun k => slices_partitionOrdered_uint64.l1 k l (a : Int) (i : Int) (j : Int)) R
 | j,hj,h => by
  by_cases hc : i ≤ j ∧ (!ltInt l.toArray[j]! l.toArray[a]!) = true
  ·obtain ⟨j,rfl⟩ : ∃ j',j = j' + 1 := ⟨j - 1,by omega⟩
   rw [sd_step _ _ _ _ hc.1 hc.2] at h
   have e1 : wrap64 (((j + 1 : Nat) : Int) - 1) = (j : Int) := by rw [sw64 (by omega) (by omega)];omega
   refine Ev.step (fun k => ?_) (part_l1 a i hi l ha hl j (by omega) h)
   simp only [slices_partitionOrdered_uint64.l1]
   rw [if_pos (by omega),if_pos (by omega),if_pos (by omega),if_pos (by omega),if_pos (by omega),sless,p_less,show ltInt l.toArray[j + 1]! l.toArray[a]! = false from by simpa using hc.2,Option.bind_some,if_neg (by decide),e1]
  ·rw [sd_stop _ _ _ _ hi hc] at h
   refine Ev.step (fun k => ?_) h
   simp only [slices_partitionOrdered_uint64.l1]
   by_cases hij : i ≤ j
   ·have hb : ltInt l.toArray[j]! l.toArray[a]! = true := by
     cases hb : ltInt l.toArray[j]! l.toArray[a]! with
     | true => rfl
     | false => exact absurd ⟨hij,by rw [hb];rfl⟩ hc
    rw [if_pos (by omega),if_pos (by omega),if_pos (by omega),if_pos (by omega),if_pos (by omega),sless,p_less,hb,Option.bind_some,if_pos rfl]
   ·rw [if_neg (by omega)]
theorem part_l0 {R : Int × Bool × List Int} (a j : Nat) (l : List Int) (ha : a < l.length) (hj : j < l.length) (hl : l.length < 1099511627776) : ∀ (n i : Nat),j + 1 ≤ i + n → 1 ≤ i →
  Ev (fun k => slices_partitionOrdered_uint64.j3 k l (a : Int) ((scanUp (fun x => ltInt x l.toArray[a]!) l.toArray j i : Nat) : Int) ((scanDown (fun x => !ltInt x l.toArray[a]!) l.toArray (scanUp (fun x => ltInt x l.toArray[a]!) l.toArray j i) j : Nat) : Int)) R →
  Ev (fun k => slices_partitionOrdered_uint64.l0 k l (a : Int) (i : Int) (j : Int)) R
 | n,i,hn,hi,h => by
  by_cases hc : i ≤ j ∧ ltInt l.toArray[i]! l.toArray[a]! = true
  ·cases n with
   | zero => omega
   | succ n =>
    rw [su_step _ _ _ _ hc.1 hc.2] at h
    have e1 : wrap64 ((i : Int) + 1) = ((i + 1 : Nat) : Int) := by rw [sw64 (by omega) (by omega)];omega
    refine Ev.step (fun k => ?_) (part_l0 a j l ha hj hl n (i + 1) (by omega) (by omega) h)
    simp only [slices_partitionOrdered_uint64.l0]
    rw [if_pos (by omega),if_pos (by omega),if_pos (by omega),if_pos (by omega),if_pos (by omega),sless,p_less,hc.2,Option.bind_some,if_pos rfl,e1]
  ·rw [su_stop _ _ _ _ hc] at h
   have h1 := part_l1 a i hi l ha hl j hj h
   have h2 : Ev (fun k => slices_partitionOrdered_uint64.j1 k l (a : Int) (i : Int) (j : Int)) R := Ev.step (fun k => by simp only [slices_partitionOrdered_uint64.j1]) h1
   refine Ev.step (fun k => ?_) h2
   simp only [slices_partitionOrdered_uint64.l0]
   by_cases hij : i ≤ j
   ·have hb : ltInt l.toArray[i]! l.toArray[a]! = false := by
     cases hb : ltInt l.toArray[i]! l.toArray[a]! with
     | false => rfl
     | true => exact absurd ⟨hij,hb⟩ hc
    rw [if_pos (by omega),if_pos (by omega),if_pos (by omega),if_pos (by omega),if_pos (by omega),sless,p_less,hb,Option.bind_some,if_neg (by decide)]
   ·rw [if_neg (by omega)]
def partEnd (k : Nat) (l : List Int) (a i j : Int) : Option (Int × Bool × List Int) :=
 if i > j then (if 0 ≤ a then (if a < (l.length : Int) then (if 0 ≤ j then (if j < (l.length : Int) then (some (j,false,((l.set (j : Int).toNat (rd l a)).set (a : Int).toNat (rd l j)))) else (none)) else (none)) else (none)) else (none))
 else (if 0 ≤ j then (if j < (l.length : Int) then (if 0 ≤ i then (if i < (l.length : Int) then (slices_partitionOrdered_uint64.l2 k ((l.set (i : Int).toNat (rd l j)).set (j : Int).toNat (rd l i)) a (wrap64 (i + 1)) (wrap64 (j - 1))) else (none)) else (none)) else (none)) else (none))
theorem part_l4 {R : Int × Bool × List Int} (a i : Nat) (hi : 1 ≤ i) (l : List Int) (ha : a < l.length) (hl : l.length < 1099511627776) : ∀ (j : Nat),j < l.length →
  Ev (fun k => partEnd k l (a : Int) (i : Int) ((scanDown (fun x => !ltInt x l.toArray[a]!) l.toArray i j : Nat) : Int)) R →
  Ev (fun k => slices_partitionOrdered_uint64.l4 k l (a : Int) (i : Int) (j : Int)) R
 | j,hj,h => by
  by_cases hc : i ≤ j ∧ (!ltInt l.toArray[j]! l.toArray[a]!) = true
  ·obtain ⟨j,rfl⟩ : ∃ j',j = j' + 1 := ⟨j - 1,by omega⟩
   rw [sd_step _ _ _ _ hc.1 hc.2] at h
   have e1 : wrap64 (((j + 1 : Nat) : Int) - 1) = (j : Int) := by rw [sw64 (by omega) (by omega)];omega
   refine Ev.step (fun k => ?_) (part_l4 a i hi l ha hl j (by omega) h)
   simp only [slices_partitionOrdered_uint64.l4]
   rw [if_pos (by omega),if_pos (by omega),if_pos (by omega),if_pos (by omega),if_pos (by omega),sless,p_less,show ltInt l.toArray[j + 1]! l.toArray[a]! = false from by simpa using hc.2,Option.bind_some,if_neg (by decide),e1]
  ·rw [sd_stop _ _ _ _ hi hc] at h
   refine Ev.step (fun k => ?_) h
   simp only [slices_partitionOrdered_uint64.l4]
   unfold partEnd
   by_cases hij : i ≤ j
   ·have hb : ltInt l.toArray[j]! l.toArray[a]! = true := by
     cases hb : ltInt l.toArray[j]! l.toArray[a]! with
     | true => rfl
     | false => exact absurd ⟨hij,by rw [hb];rfl⟩ hc
    rw [if_pos (by omega),if_pos (by omega),if_pos (by omega),if_pos (by omega),if_pos (by omega),sless,p_less,hb,Option.bind_some,if_pos rfl]
    have g1 : ¬ ((i : Int) > (j : Int)) := by omega
    have g2 : (0 : Int) ≤ (j : Int) := by omega
    have g3 : (j : Int) < (l.length : Int) := by omega
    simp only [if_neg g1,if_pos g2,if_pos g3]
   ·rw [if_neg (by omega)]
theorem part_l3 {R : Int × Bool × List Int} (a j : Nat) (l : List Int) (ha : a < l.length) (hj : j < l.length) (hl : l.length < 1099511627776) : ∀ (n i : Nat),j + 1 ≤ i + n → 1 ≤ i →
  Ev (fun k => partEnd k l (a : Int) ((scanUp (fun x => ltInt x l.toArray[a]!) l.toArray j i : Nat) : Int) ((scanDown (fun x => !ltInt x l.toArray[a]!) l.toArray (scanUp (fun x => ltInt x l.toArray[a]!) l.toArray j i) j : Nat) : Int)) R →
  Ev (fun k => slices_partitionOrdered_uint64.l3 k l (a : Int) (i : Int) (j : Int)) R
 | n,i,hn,hi,h => by
  by_cases hc : i ≤ j ∧ ltInt l.toArray[i]! l.toArray[a]! = true
  ·cases n with
   | zero => omega
   | succ n =>
    rw [su_step _ _ _ _ hc.1 hc.2] at h
    have e1 : wrap64 ((i : Int) + 1) = ((i + 1 : Nat) : Int) := by rw [sw64 (by omega) (by omega)];omega
    refine Ev.step (fun k => ?_) (part_l3 a j l ha hj hl n (i + 1) (by omega) (by omega) h)
    simp only [slices_partitionOrdered_uint64.l3]
    rw [if_pos (by omega),if_pos (by omega),if_pos (by omega),if_pos (by omega),if_pos (by omega),sless,p_less,hc.2,Option.bind_some,if_pos rfl,e1]
  ·rw [su_stop _ _ _ _ hc] at h
   have h1 := part_l4 a i hi l ha hl j hj h
   have h2 : Ev (fun k => slices_partitionOrdered_uint64.j6 k l (a : Int) (i : Int) (j : Int)) R := Ev.step (fun k => by simp only [slices_partitionOrdered_uint64.j6]) h1
   refine Ev.step (fun k => ?_) h2
   simp only [slices_partitionOrdered_uint64.l3]
   by_cases hij : i ≤ j
   ·have hb : ltInt l.toArray[i]! l.toArray[a]! = false := by
     cases hb : ltInt l.toArray[i]! l.toArray[a]! with
     | false => rfl
     | true => exact absurd ⟨hij,hb⟩ hc
    rw [if_pos (by omega),if_pos (by omega),if_pos (by omega),if_pos (by omega),if_pos (by omega),sless,p_less,hb,Option.bind_some,if_neg (by decide)]
   ·rw [if_neg (by omega)]
theorem w_succ {n : Nat} (h : n < 1099511627776) : wrap64 ((n : Int) + 1) = ((n + 1 : Nat) : Int) := by rw [sw64 (by omega) (by omega)];omega
theorem w_pred {n : Nat} (h : n < 1099511627776) (h1 : 1 ≤ n) : wrap64 ((n : Int) - 1) = ((n - 1 : Nat) : Int) := by rw [sw64 (by omega) (by omega)];omega
theorem part_end {X : Int × Bool × List Int} (a i2 j2 : Nat) (l : List Int) (ha : a < l.length) (hj : j2 < l.length) (hi : 1 ≤ i2) (hl : l.length < 1099511627776)
  (hrec : ¬ i2 > j2 → Ev (fun k => slices_partitionOrdered_uint64.l2 k ((l.set i2 (rd l (j2 : Int))).set j2 (rd l (i2 : Int))) (a : Int) ((i2 + 1 : Nat) : Int) ((j2 - 1 : Nat) : Int)) X) :
  Ev (fun k => partEnd k l (a : Int) (i2 : Int) (j2 : Int)) (if i2 > j2 then ((j2 : Int),false,(swp l.toArray j2 a).toList) else X) := by
 by_cases hgt : i2 > j2
 ·rw [if_pos hgt]
  refine (Ev.now _).congr (fun k => ?_)
  unfold partEnd
  rw [if_pos (by omega),if_pos (by omega),if_pos (by omega),if_pos (by omega),if_pos (by omega),tl_swp,Int.toNat_natCast,Int.toNat_natCast]
 ·rw [if_neg hgt]
  refine (hrec hgt).congr (fun k => ?_)
  unfold partEnd
  rw [if_neg (by omega),if_pos (by omega),if_pos (by omega),if_pos (by omega),if_pos (by omega),w_succ (by omega),w_pred (by omega) (by omega),Int.toNat_natCast,Int.toNat_natCast]
theorem partLoop_eq (a i j i2 j2 : Nat) (d : Array Int) (h2 : i2 = scanUp (fun x => ltInt x d[a]!) d j i) (h3 : j2 = scanDown (fun x => !ltInt x d[a]!) d i2 j) (hi : 1 ≤ i) :
  partLoop ltInt a i j d = if i2 > j2 then (j2,d) else partLoop ltInt a (i2 + 1) (j2 - 1) (swp d i2 j2) := by
 have b1 := (su_ge (fun x => ltInt x d[a]!) d j (j + 1) i (by omega)).1
 have b2 := (sd_le (fun x => !ltInt x d[a]!) d i2 (by rw [h2];exact Nat.le_trans hi b1) j).1
 rw [← h2] at b1
 rw [← h3] at b2
 rw [partLoop]
 simp only [← h2,← h3]
 clear h2 h3
 by_cases hgt : i2 > j2
 ·rw [if_pos hgt,if_pos hgt]
 ·rw [if_neg hgt,if_neg hgt,dif_pos (by omega)]
theorem part_l2 (a : Nat) : ∀ (n i j : Nat) (l : List Int),j + 1 ≤ i + n → 1 ≤ i → a < l.length → j < l.length → l.length < 1099511627776 →
  Ev (fun k => slices_partitionOrdered_uint64.l2 k l (a : Int) (i : Int) (j : Int)) (((partLoop ltInt a i j l.toArray).1 : Int),false,(swp (partLoop ltInt a i j l.toArray).2 (partLoop ltInt a i j l.toArray).1 a).toList) := by
 intro n
 induction n with
 | zero =>
  intro i j l hn hi ha hj hl
  have h1 : scanUp (fun x => ltInt x l.toArray[a]!) l.toArray j i = i := su_stop _ _ _ _ (by omega)
  have h2 : scanDown (fun x => !ltInt x l.toArray[a]!) l.toArray i j = j := sd_stop _ _ _ _ hi (by omega)
  rw [partLoop_eq a i j i j _ h1.symm h2.symm hi,if_pos (by omega)]
  have he := part_end (X := ((j : Int),false,(swp l.toArray j a).toList)) a i j l ha hj hi hl (fun h => absurd h (by omega))
  rw [if_pos (by omega)] at he
  have h3 := part_l3 (R := ((j : Int),false,(swp l.toArray j a).toList)) a j l ha hj hl (j + 1) i (by omega) hi (by rw [h1,h2];exact he)
  exact Ev.step (fun k => by simp only [slices_partitionOrdered_uint64.l2]) h3
 | succ n ih =>
  intro i j l hn hi ha hj hl
  obtain ⟨i2,hi2⟩ : ∃ x,x = scanUp (fun x => ltInt x l.toArray[a]!) l.toArray j i := ⟨_,rfl⟩
  obtain ⟨j2,hj2⟩ : ∃ x,x = scanDown (fun x => !ltInt x l.toArray[a]!) l.toArray i2 j := ⟨_,rfl⟩
  have b1 := (su_ge (fun x => ltInt x l.toArray[a]!) l.toArray j (j + 1) i (by omega)).1
  rw [← hi2] at b1
  have b2 := (sd_le (fun x => !ltInt x l.toArray[a]!) l.toArray i2 (Nat.le_trans hi b1) j).1
  rw [← hj2] at b2
  have hp := partLoop_eq a i j i2 j2 _ hi2 hj2 hi
  have hS : ∀ R,Ev (fun k => partEnd k l (a : Int) (i2 : Int) (j2 : Int)) R → Ev (fun k => slices_partitionOrdered_uint64.l3 k l (a : Int) (i : Int) (j : Int)) R := fun R h => by
   rw [hi2,hj2,hi2] at h
   exact part_l3 a j l ha hj hl (j + 1) i (by clear hi2 hj2 h hp;omega) hi h
  clear hi2 hj2
  rw [hp]
  clear hp
  refine Ev.step (fun k => by simp only [slices_partitionOrdered_uint64.l2]) (hS _ ?_)
  have hl' := slen l i2 j2 (rd l (j2 : Int)) (rd l (i2 : Int))
  have he := part_end a i2 j2 l ha (by omega) (by omega) hl (fun hgt => ih (i2 + 1) (j2 - 1) ((l.set i2 (rd l (j2 : Int))).set j2 (rd l (i2 : Int))) (by omega) (by omega) (by omega) (by omega) (by omega))
  rw [sswp] at he
  by_cases hgt : i2 > j2
  ·rw [if_pos hgt] at he ⊢;exact he
  ·rw [if_neg hgt] at he ⊢;exact he
theorem part_j3 {X : Int × Bool × List Int} (a i2 j2 : Nat) (l : List Int) (ha : a < l.length) (hj : j2 < l.length) (hi : 1 ≤ i2) (hl : l.length < 1099511627776)
  (hrec : ¬ i2 > j2 → Ev (fun k => slices_partitionOrdered_uint64.l2 k ((l.set i2 (rd l (j2 : Int))).set j2 (rd l (i2 : Int))) (a : Int) ((i2 + 1 : Nat) : Int) ((j2 - 1 : Nat) : Int)) X) :
  Ev (fun k => slices_partitionOrdered_uint64.j3 k l (a : Int) (i2 : Int) (j2 : Int)) (if i2 > j2 then ((j2 : Int),true,(swp l.toArray j2 a).toList) else X) := by
 by_cases hgt : i2 > j2
 ·rw [if_pos hgt]
  refine Ev.step (fun k => ?_) (Ev.now _)
  simp only [slices_partitionOrdered_uint64.j3]
  rw [if_pos (by omega),if_pos (by omega),if_pos (by omega),if_pos (by omega),if_pos (by omega),tl_swp,Int.toNat_natCast,Int.toNat_natCast]
 ·rw [if_neg hgt]
  refine Ev.step (fun k => ?_) (hrec hgt)
  simp only [slices_partitionOrdered_uint64.j3]
  rw [if_neg (by omega),if_pos (by omega),if_pos (by omega),if_pos (by omega),if_pos (by omega),w_succ (by omega),w_pred (by omega) (by omega),Int.toNat_natCast,Int.toNat_natCast]
theorem partition_eq (a b pv i2 j2 : Nat) (d m : Array Int) (hm : m = swp d a pv) (h2 : i2 = scanUp (fun x => ltInt x m[a]!) m (b - 1) (a + 1)) (h3 : j2 = scanDown (fun x => !ltInt x m[a]!) m i2 (b - 1)) :
  Go.Sort.partition ltInt d a b pv = if i2 > j2 then (j2,true,swp m j2 a) else ((partLoop ltInt a (i2 + 1) (j2 - 1) (swp m i2 j2)).1,false,swp (partLoop ltInt a (i2 + 1) (j2 - 1) (swp m i2 j2)).2 (partLoop ltInt a (i2 + 1) (j2 - 1) (swp m i2 j2)).1 a) := by
 unfold Go.Sort.partition
 simp only [← hm,← h2,← h3]
theorem part_ev (a b pv : Nat) (l : List Int) (hab : a + 1 < b) (hp1 : a ≤ pv) (hp2 : pv < b) (hbl : b ≤ l.length) (hl : l.length < 1099511627776) :
  Ev (fun k => slices_partitionOrdered_uint64.f k l (a : Int) (b : Int) (pv : Int)) (((Go.Sort.partition ltInt l.toArray a b pv).1 : Int),(Go.Sort.partition ltInt l.toArray a b pv).2.1,(Go.Sort.partition ltInt l.toArray a b pv).2.2.toList) := by
 obtain ⟨m,hm⟩ : ∃ m,m = (l.set a (rd l (pv : Int))).set pv (rd l (a : Int)) := ⟨_,rfl⟩
 have hml : m.length = l.length := by rw [hm,slen]
 have hma : m.toArray = swp l.toArray a pv := by rw [hm,sswp]
 have hstart : ∀ R,Ev (fun k => slices_partitionOrdered_uint64.l0 k m (a : Int) ((a + 1 : Nat) : Int) ((b - 1 : Nat) : Int)) R → Ev (fun k => slices_partitionOrdered_uint64.f k l (a : Int) (b : Int) (pv : Int)) R := fun R h => by
  refine h.congr (fun k => ?_)
  unfold slices_partitionOrdered_uint64.f
  rw [if_pos (by omega),if_pos (by omega),if_pos (by omega),if_pos (by omega),w_succ (by omega),w_pred (by omega) (by omega),hm,Int.toNat_natCast,Int.toNat_natCast]
 clear hm
 obtain ⟨i2,hi2⟩ : ∃ x,x = scanUp (fun x => ltInt x m.toArray[a]!) m.toArray (b - 1) (a + 1) := ⟨_,rfl⟩
 obtain ⟨j2,hj2⟩ : ∃ x,x = scanDown (fun x => !ltInt x m.toArray[a]!) m.toArray i2 (b - 1) := ⟨_,rfl⟩
 have b1 := (su_ge (fun x => ltInt x m.toArray[a]!) m.toArray (b - 1) b (a + 1) (by omega)).1
 rw [← hi2] at b1
 have b2 := (sd_le (fun x => !ltInt x m.toArray[a]!) m.toArray i2 (Nat.le_trans (Nat.le_add_left 1 a) b1) (b - 1)).1
 rw [← hj2] at b2
 have hp := partition_eq a b pv i2 j2 l.toArray m.toArray hma hi2 hj2
 have hS : ∀ R,Ev (fun k => slices_partitionOrdered_uint64.j3 k m (a : Int) (i2 : Int) (j2 : Int)) R → Ev (fun k => slices_partitionOrdered_uint64.l0 k m (a : Int) ((a + 1 : Nat) : Int) ((b - 1 : Nat) : Int)) R := fun R h => by
  rw [hi2,hj2,hi2] at h
  exact part_l0 a (b - 1) m (by clear hi2 hj2 h hp;omega) (by clear hi2 hj2 h hp;omega) (by clear hi2 hj2 h hp;omega) b (a + 1) (by clear hi2 hj2 h hp;omega) (by clear hi2 hj2 h hp;omega) h
 clear hi2 hj2 hma
 rw [hp]
 clear hp
 refine hstart _ (hS _ ?_)
 clear hstart hS
 have hl' := slen m i2 j2 (rd m (j2 : Int)) (rd m (i2 : Int))
 have he := part_j3 a i2 j2 m (by omega) (by omega) (by omega) (by omega) (fun hgt => part_l2 a b (i2 + 1) (j2 - 1) ((m.set i2 (rd m (j2 : Int))).set j2 (rd m (i2 : Int))) (by omega) (by omega) (by omega) (by omega) (by omega))
 rw [sswp] at he
 by_cases hgt : i2 > j2
 ·rw [if_pos hgt] at he ⊢;exact he
 ·rw [if_neg hgt] at he ⊢;exact he
def peqEnd (k : Nat) (l : List Int) (a i j : Int) : Option (Int × List Int) :=
 if i > j then (some (i,l)) else (if 0 ≤ j then (if j < (l.length : Int) then (if 0 ≤ i then (if i < (l.length : Int) then (slices_partitionEqualOrdered_uint64.l0 k ((l.set (i : Int).toNat (rd l j)).set (j : Int).toNat (rd l i)) a (wrap64 (i + 1)) (wrap64 (j - 1))) else (none)) else (none)) else (none)) else (none))
theorem peq_l2 {R : Int × List Int} (a i : Nat) (hi : 1 ≤ i) (l : List Int) (ha : a < l.length) (hl : l.length < 1099511627776) : ∀ (j : Nat),j < l.length →
  Ev (fun k => peqEnd k l (a : Int) (i : Int) ((scanDown (fun x => ltInt l.toArray[a]! x) l.toArray i j : Nat) : Int)) R →
  Ev (fun k => slices_partitionEqualOrdered_uint64.l2 k l (a : Int) (i : Int) (j : Int)) R
 | j,hj,h => by
  by_cases hc : i ≤ j ∧ ltInt l.toArray[a]! l.toArray[j]! = true
  ·obtain ⟨j,rfl⟩ : ∃ j',j = j' + 1 := ⟨j - 1,by omega⟩
   rw [sd_step _ _ _ _ hc.1 hc.2] at h
   have e1 : wrap64 (((j + 1 : Nat) : Int) - 1) = (j : Int) := by rw [sw64 (by omega) (by omega)];omega
   refine Ev.step (fun k => ?_) (peq_l2 a i hi l ha hl j (by omega) h)
   simp only [slices_partitionEqualOrdered_uint64.l2]
   rw [if_pos (by omega),if_pos (by omega),if_pos (by omega),if_pos (by omega),if_pos (by omega),sless,p_less,hc.2,Option.bind_some,if_pos rfl,e1]
  ·rw [sd_stop _ _ _ _ hi hc] at h
   refine Ev.step (fun k => ?_) h
   simp only [slices_partitionEqualOrdered_uint64.l2]
   unfold peqEnd
   by_cases hij : i ≤ j
   ·have hb : ltInt l.toArray[a]! l.toArray[j]! = false := by
     cases hb : ltInt l.toArray[a]! l.toArray[j]! with
     | false => rfl
     | true => exact absurd ⟨hij,hb⟩ hc
    rw [if_pos (by omega),if_pos (by omega),if_pos (by omega),if_pos (by omega),if_pos (by omega),sless,p_less,hb,Option.bind_some,if_neg (by decide)]
    have g1 : ¬ ((i : Int) > (j : Int)) := by omega
    have g2 : (0 : Int) ≤ (j : Int) := by omega
    have g3 : (j : Int) < (l.length : Int) := by omega
    simp only [if_neg g1,if_pos g2,if_pos g3]
   ·rw [if_neg (by omega)]
theorem peq_l1 {R : Int × List Int} (a j : Nat) (l : List Int) (ha : a < l.length) (hj : j < l.length) (hl : l.length < 1099511627776) : ∀ (n i : Nat),j + 1 ≤ i + n → 1 ≤ i →
  Ev (fun k => peqEnd k l (a : Int) ((scanUp (fun x => !ltInt l.toArray[a]! x) l.toArray j i : Nat) : Int) ((scanDown (fun x => ltInt l.toArray[a]! x) l.toArray (scanUp (fun x => !ltInt l.toArray[a]! x) l.toArray j i) j : Nat) : Int)) R →
  Ev (fun k => slices_partitionEqualOrdered_uint64.l1 k l (a : Int) (i : Int) (j : Int)) R
 | n,i,hn,hi,h => by
  by_cases hc : i ≤ j ∧ (!ltInt l.toArray[a]! l.toArray[i]!) = true
  ·cases n with
   | zero => omega
   | succ n =>
    rw [su_step _ _ _ _ hc.1 hc.2] at h
    have e1 : wrap64 ((i : Int) + 1) = ((i + 1 : Nat) : Int) := by rw [sw64 (by omega) (by omega)];omega
    refine Ev.step (fun k => ?_) (peq_l1 a j l ha hj hl n (i + 1) (by omega) (by omega) h)
    simp only [slices_partitionEqualOrdered_uint64.l1]
    rw [if_pos (by omega),if_pos (by omega),if_pos (by omega),if_pos (by omega),if_pos (by omega),sless,p_less,show ltInt l.toArray[a]! l.toArray[i]! = false from by simpa using hc.2,Option.bind_some,if_neg (by decide),e1]
  ·rw [su_stop _ _ _ _ hc] at h
   have h1 := peq_l2 a i hi l ha hl j hj h
   have h2 : Ev (fun k => slices_partitionEqualOrdered_uint64.j2 k l (a : Int) (i : Int) (j : Int)) R := Ev.step (fun k => by simp only [slices_partitionEqualOrdered_uint64.j2]) h1
   refine Ev.step (fun k => ?_) h2
   simp only [slices_partitionEqualOrdered_uint64.l1]
   by_cases hij : i ≤ j
   ·have hb : ltInt l.toArray[a]! l.toArray[i]! = true := by
     cases hb : ltInt l.toArray[a]! l.toArray[i]! with
     | true => rfl
     | false => exact absurd ⟨hij,by rw [hb];rfl⟩ hc
    rw [if_pos (by omega),if_pos (by omega),if_pos (by omega),if_pos (by omega),if_pos (by omega),sless,p_less,hb,Option.bind_some,if_pos rfl]
   ·rw [if_neg (by omega)]
theorem peq_end {X : Int × List Int} (a i2 j2 : Nat) (l : List Int) (ha : a < l.length) (hj : j2 < l.length) (hi : 1 ≤ i2) (hl : l.length < 1099511627776)
  (hrec : ¬ i2 > j2 → Ev (fun k => slices_partitionEqualOrdered_uint64.l0 k ((l.set i2 (rd l (j2 : Int))).set j2 (rd l (i2 : Int))) (a : Int) ((i2 + 1 : Nat) : Int) ((j2 - 1 : Nat) : Int)) X) :
  Ev (fun k => peqEnd k l (a : Int) (i2 : Int) (j2 : Int)) (if i2 > j2 then ((i2 : Int),l) else X) := by
 by_cases hgt : i2 > j2
 ·rw [if_pos hgt]
  refine (Ev.now _).congr (fun k => ?_)
  unfold peqEnd
  rw [if_pos (by omega)]
 ·rw [if_neg hgt]
  refine (hrec hgt).congr (fun k => ?_)
  unfold peqEnd
  rw [if_neg (by omega),if_pos (by omega),if_pos (by omega),if_pos (by omega),if_pos (by omega),w_succ (by omega),w_pred (by omega) (by omega),Int.toNat_natCast,Int.toNat_natCast]
theorem partEqLoop_eq (a i j i2 j2 : Nat) (d : Array Int) (h2 : i2 = scanUp (fun x => !ltInt d[a]! x) d j i) (h3 : j2 = scanDown (fun x => ltInt d[a]! x) d i2 j) (hi : 1 ≤ i) :
  partEqLoop ltInt a i j d = if i2 > j2 then (i2,d) else partEqLoop ltInt a (i2 + 1) (j2 - 1) (swp d i2 j2) := by
 have b1 := (su_ge (fun x => !ltInt d[a]! x) d j (j + 1) i (by omega)).1
 have b2 := (sd_le (fun x => ltInt d[a]! x) d i2 (by rw [h2];exact Nat.le_trans hi b1) j).1
 rw [← h2] at b1
 rw [← h3] at b2
 rw [partEqLoop]
 simp only [← h2,← h3]
 clear h2 h3
 by_cases hgt : i2 > j2
 ·rw [if_pos hgt,if_pos hgt]
 ·rw [if_neg hgt,if_neg hgt,dif_pos (by omega)]
theorem peq_l0 (a : Nat) : ∀ (n i j : Nat) (l : List Int),j + 1 ≤ i + n → 1 ≤ i → a < l.length → j < l.length → l.length < 1099511627776 →
  Ev (fun k => slices_partitionEqualOrdered_uint64.l0 k l (a : Int) (i : Int) (j : Int)) (((partEqLoop ltInt a i j l.toArray).1 : Int),(partEqLoop ltInt a i j l.toArray).2.toList) := by
 intro n
 induction n with
 | zero =>
  intro i j l hn hi ha hj hl
  have h1 : scanUp (fun x => !ltInt l.toArray[a]! x) l.toArray j i = i := su_stop _ _ _ _ (by omega)
  have h2 : scanDown (fun x => ltInt l.toArray[a]! x) l.toArray i j = j := sd_stop _ _ _ _ hi (by omega)
  rw [partEqLoop_eq a i j i j _ h1.symm h2.symm hi,if_pos (by omega)]
  have he := peq_end (X := ((i : Int),l)) a i j l ha hj hi hl (fun h => absurd h (by omega))
  rw [if_pos (by omega)] at he
  have h3 := peq_l1 (R := ((i : Int),l)) a j l ha hj hl (j + 1) i (by omega) hi (by rw [h1,h2];exact he)
  exact Ev.step (fun k => by simp only [slices_partitionEqualOrdered_uint64.l0]) h3
 | succ n ih =>
  intro i j l hn hi ha hj hl
  obtain ⟨i2,hi2⟩ : ∃ x,x = scanUp (fun x => !ltInt l.toArray[a]! x) l.toArray j i := ⟨_,rfl⟩
  obtain ⟨j2,hj2⟩ : ∃ x,x = scanDown (fun x => ltInt l.toArray[a]! x) l.toArray i2 j := ⟨_,rfl⟩
  have b1 := (su_ge (fun x => !ltInt l.toArray[a]! x) l.toArray j (j + 1) i (by omega)).1
  rw [← hi2] at b1
  have b2 := (sd_le (fun x => ltInt l.toArray[a]! x) l.toArray i2 (Nat.le_trans hi b1) j).1
  rw [← hj2] at b2
  have hp := partEqLoop_eq a i j i2 j2 _ hi2 hj2 hi
  have hS : ∀ R,Ev (fun k => peqEnd k l (a : Int) (i2 : Int) (j2 : Int)) R → Ev (fun k => slices_partitionEqualOrdered_uint64.l1 k l (a : Int) (i : Int) (j : Int)) R := fun R h => by
   rw [hi2,hj2,hi2] at h
   exact peq_l1 a j l ha hj hl (j + 1) i (by clear hi2 hj2 h hp;omega) hi h
  clear hi2 hj2
  rw [hp]
  clear hp
  refine Ev.step (fun k => by simp only [slices_partitionEqualOrdered_uint64.l0]) (hS _ ?_)
  have hl' := slen l i2 j2 (rd l (j2 : Int)) (rd l (i2 : Int))
  have he := peq_end a i2 j2 l ha (by omega) (by omega) hl (fun hgt => ih (i2 + 1) (j2 - 1) ((l.set i2 (rd l (j2 : Int))).set j2 (rd l (i2 : Int))) (by omega) (by omega) (by omega) (by omega) (by omega))
  rw [sswp] at he
  by_cases hgt : i2 > j2
  ·rw [if_pos hgt] at he ⊢;exact he
  ·rw [if_neg hgt] at he ⊢;exact he
theorem peq_ev (a b pv : Nat) (l : List Int) (hab : a + 1 < b) (hp1 : a ≤ pv) (hp2 : pv < b) (hbl : b ≤ l.length) (hl : l.length < 1099511627776) :
  Ev (fun k => slices_partitionEqualOrdered_uint64.f k l (a : Int) (b : Int) (pv : Int)) (((partitionEqual ltInt l.toArray a b pv).1 : Int),(partitionEqual ltInt l.toArray a b pv).2.toList) := by
 have h := peq_l0 a b (a + 1) (b - 1) ((l.set a (rd l (pv : Int))).set pv (rd l (a : Int))) (by omega) (by omega) (by rw [slen];omega) (by rw [slen];omega) (by rw [slen];exact hl)
 rw [sswp] at h
 refine h.congr (fun k => ?_)
 unfold slices_partitionEqualOrdered_uint64.f
 rw [if_pos (by omega),if_pos (by omega),if_pos (by omega),if_pos (by omega),w_succ (by omega),w_pred (by omega) (by omega),Int.toNat_natCast,Int.toNat_natCast]
end
end Go.Proofs.Ytmdoaijkaaaglaa.Srt
end
section
namespace Go.Proofs.Ytmdoaijkaaaglaa.Hw
open Go.RowKit Go.Proofs.Ytmdoaijkaaaglaa.Pr Go.Proofs.YtmdoaijkaaaglaaW.PrintWords Go.Proofs.YtmdoaijkaaaglaaW.PrintLast Go.Proofs.YtmdoaijkaaaglaaW.PrintMore Go.Proofs.Ytmdoaijkaaaglaa.E
theorem wrapI_id {n : Int} (h0 : -9223372036854775808 ≤ n) (h1 : n < 9223372036854775808) : IntKind.i64.wrap n = n := by rw [IntKind.wrap_i64];omega
theorem C_none {k : IntKind} {w : World} {xs : List Int} (h : Kd.C (Kd.int k) w none xs.length xs) : xs = [] := by
 rcases xs with _|⟨x,xs⟩
 ·rfl
 ·obtain ⟨ad,e,_⟩ := Kd.at_int h 0 (by omega) (by simp)
  cases e
set_option maxHeartbeats 1000000 in
set_option maxRecDepth 100000 in
theorem clone_u64 (A : Option Addr) (c : Nat) (l : List Int) (w : World) (hr : Kd.C (Kd.int .u64) w A l.length l) (hc : l.length ≤ c) (hl : l.length ≤ 1099511627776) :
  Calls Try.prog 76 #[.slice A l.length c] w fun e w' => ∃ v0_ : Value,e = .returned (v0_) ∧ Kd.R (Kd.int .u64) 22 w' w.heap.size (fun _ => True) v0_ l ∧ Below w.heap.size w w' := by
 have HR := Aside0.mk hr
 clear hr
 rcases A with _|a
 ·obtain rfl := C_none HR.out
  have heq : ∀ W : World,(binOp .eql 40 (.slice none 0 c) (.slice none 0 0)).run Try.prog W = .ok (.bool true) W := fun W => Lib.run_eql_slice_nil W 40 22 none 0 c 0 0 Try.underlying40
  go_enter Try.func76,Try.ntmps76
  go_wp2
  go_ret
  exact ⟨_,rfl,Kd.R_nil _ _ _ _ _,Below.refl _ _⟩
 ·have heq : ∀ W : World,(binOp .eql 40 (.slice (some a) l.length c) (.slice none 0 0)).run Try.prog W = .ok (.bool false) W := fun W => Lib.run_eql_slice_nil W 40 22 (some a) l.length c 0 0 Try.underlying40
  go_enter Try.func76,Try.ntmps76
  go_wp2_with (first
   | ((with_reducible refine gate_dst (N := 5) rfl ?_);refine Kd.R_lit (Kd.int .u64) _ 22 ?hg (N := 5) ?hd (xs := ([] : List Int)) (inner := []) (ok := fun _ => True) (okp := fun _ => True) ?hr ?hp (fun _ hk => hk) trivial (Below.refl _ _) (Nat.le_refl _) (by simp) ?_;(case hd => rfl);(case hg => rfl);(case hr => first|(go_simp;done)|(go_simp;rfl));(case hp => exact (Reps.none _ _));intro v1 w1 ho1 hb1 hg1 hn1;clear hg1 hn1;have HO1 := Aside0.mk ho1;have HB1 := Aside0.mk hb1;clear ho1 hb1)
   | ((with_reducible refine gate_builtin (b := .append) (xs := #[.tmp 5,.tmp 6]) rfl ?_);at_builtin;refine Kd.R_append_rows (Kd.int .u64) (w0 := w) w.heap.size rfl (.tmp 5) (.tmp 6) 40 22 (.int .u64 0) 8 rfl Try.underlying40 info22 rfl (by decide) (by omega) v1 [] l _ _ _ (fun _ => True) (fun _ => False) rfl rfl HO1.out (Kd.C_below HR.out HB1.out) (fun _ _ h => h) (fun _ h => h.elim) (fun _ _ => trivial) HB1.out (below_size HB1.out) (by simp;omega) ?_;intro v2 w2 ho2 hb2 hg2 ha2;clear hg2 ha2;have HO2 := Aside0.mk ho2;have HB2 := Aside0.mk hb2;clear ho2 hb2))
  go_ret
  exact ⟨_,rfl,by simpa using HO2.out,HB2.out⟩
set_option maxHeartbeats 1000000 in
set_option maxRecDepth 100000 in
theorem pdq_small (k : Nat) (P0_ : Nat → Prop) (v : Value) (l r : List Int) (L : Int) (hl : l.length ≤ 12) (w0 w : World) (hB : Below w0.heap.size w0 w) (ho : Kd.R (Kd.int .u64) 22 w w0.heap.size P0_ v l)
  (h : slices_insertionSortOrdered_uint64.f k l 0 (l.length : Int) = some r) :
  Calls Try.prog 102 #[v,.int .i64 0,.int .i64 (l.length : Int),.int .i64 L] w fun e w' => e = .returned (.tuple #[]) ∧ Kd.R (Kd.int .u64) 22 w' w0.heap.size (fun k_ => (P0_ k_ ∨ w.heap.size ≤ k_)) v r ∧ Below w0.heap.size w0 w' ∧ Kept w w' (fun k_ => P0_ k_) := by
 have hc := Aside0.mk (slices_insertionSortOrdered_uint64.calls k P0_ v l 0 (l.length : Int) r w0 w hB ho h)
 have hle : decide ((l.length : Int) ≤ 12) = true := decide_eq_true (by omega)
 have hle' : decide (l.length ≤ 12) = true := decide_eq_true hl
 clear hB ho h
 go_enter Try.func102,Try.ntmps102
 go_wp2
 go_loopg [1,2] 0 (fun kq v1 v2 w' => v1 = .int .i64 0 ∧ v2 = .int .i64 (l.length : Int) ∧ w' = w)
 case atStart => exact ⟨rfl,rfl,rfl⟩
 case round =>
  obtain ⟨rfl,rfl,rfl⟩ := hrel
  go_wp2_with (first|(go_at_call 105;(with_reducible refine hc.out.mono ?_);rintro e w' ⟨rfl,h1,h2,h3⟩;have H1 := Aside0.mk h1;have H2 := Aside0.mk h2;have H3 := Aside0.mk h3;clear h1 h2 h3))
  first|go_end0|((try simp only [Exit.inBlock,Exit.then]);refine bodyPost_ret (results_none rfl _ _ _) rfl ?_)
  exact ⟨rfl,H1.out,H2.out,H3.out⟩
set_option maxHeartbeats 1000000 in
set_option maxRecDepth 100000 in
theorem sort_small (k k2 : Nat) (P0_ : Nat → Prop) (A : Option Addr) (c : Nat) (l r : List Int) (L : Int) (hl : l.length ≤ 12) (w0 w : World) (hB : Below w0.heap.size w0 w) (ho : Kd.R (Kd.int .u64) 22 w w0.heap.size P0_ (.slice A l.length c) l)
  (h : slices_insertionSortOrdered_uint64.f k l 0 (l.length : Int) = some r) (hL : bits_Len.f k2 (l.length : Int) = some L) :
  Calls Try.prog 89 #[.slice A l.length c] w fun e w' => e = .returned (.tuple #[]) ∧ Kd.R (Kd.int .u64) 22 w' w0.heap.size (fun _ => True) (.slice A l.length c) r ∧ Below w0.heap.size w0 w' := by
 have HL := Aside0.mk hL
 have HO := Aside0.mk ho
 have HB := Aside0.mk hB
 have HH := Aside0.mk h
 clear hL ho hB h
 go_enter Try.func89,Try.ntmps89
 go_wp2_with (first
  | (go_at_call 103;(refine (bits_Len.calls k2 _ L _ HL.out).mono ?_);rintro e w' ⟨rfl,⟨nd,rfl⟩⟩;have hc := Aside0.mk (pdq_small k P0_ _ l r L hl w0 (w.drewN nd) (pw_below_drewN HB.out nd) (Kd.R_drewN HO.out nd) HH.out))
  | (go_at_call 102;(with_reducible refine hc.out.mono ?_);rintro e w' ⟨rfl,h1,h2,h3⟩;clear h3;have H1 := Aside0.mk h1;have H2 := Aside0.mk h2;clear h1 h2))
 first|go_end0|((try simp only [Exit.inBlock,Exit.then]);refine bodyPost_ret (results_none rfl _ _ _) rfl ?_)
 exact ⟨rfl,Kd.R_mono H1.out (fun _ _ => trivial),H2.out⟩
theorem below_cells {B : Nat} {w W : World} (h : Below B w W) {b : Nat} (hb : B ≤ b) : ∀ (vs : List Value) (o : Nat),Below B w (W.setCells b o vs) := by
 intro vs
 induction vs generalizing W with
 | nil => intro o;exact h
 | cons v vs ih => intro o;exact ih (h.setCell (p := ⟨b,o,none⟩) hb v) _
def Diff (l : List Int) (n : Nat) : Prop := ∀ i,i + 1 < n → rd l ((i : Int) + 1) ≠ rd l (i : Int)
set_option maxHeartbeats 1000000 in
set_option maxRecDepth 100000 in
theorem compact_u64 (A : Option Addr) (c : Nat) (l : List Int) (hl : l.length ≤ 1099511627776) (w0 w : World) (hB : Below w0.heap.size w0 w) (ho : Kd.R (Kd.int .u64) 22 w w0.heap.size (fun _ => True) (.slice A l.length c) l) :
  Calls Try.prog 90 #[.slice A l.length c] w fun e w' => Aside0 (∃ A' m c',e = .returned (.slice A' m c') ∧ (m = l.length ↔ Diff l l.length)) ∧ Below w0.heap.size w0 w' := by
 have HO := Aside0.mk ho
 have HB := Aside0.mk hB
 clear ho hB
 by_cases h2 : l.length < 2
 ·have hd : decide (l.length < 2) = true := decide_eq_true h2
  have hd' : decide ((l.length : Int) < 2) = true := decide_eq_true (by omega)
  go_enter Try.func90,Try.ntmps90
  go_wp2
  first|go_ret|((try simp only [Exit.inBlock,Exit.then]);refine bodyPost_ret (results_tmp rfl _ _ rfl) rfl ?_)
  exact ⟨⟨_,_,_,rfl,⟨fun _ i hi => absurd hi (by omega),fun _ => rfl⟩⟩,HB.out⟩
 ·have hd : decide (l.length < 2) = false := decide_eq_false h2
  have hd' : decide ((l.length : Int) < 2) = false := decide_eq_false (by omega)
  obtain ⟨b,q,hv,hb0,how⟩ := R_open HO.out (by omega)
  cases hv
  have HW := Aside0.mk how
  clear how
  have hcl := own_le HW.out
  go_enter Try.func90,Try.ntmps90
  go_wp2
  go_loopg [3] l.length (fun kq v3 w' => ∃ (j nd : Nat),v3 = .int .i64 ((j + 1 : Nat) : Int) ∧ Aside0 (kq + j + 1 = l.length + 1) ∧ Aside0 (j + 1 ≤ l.length ∧ Diff l (j + 1)) ∧ w' = w.drewN nd)
  case atStart => exact ⟨0,0,rfl,⟨by omega⟩,⟨by omega,fun i hi => absurd hi (by omega)⟩,rfl⟩
  case round =>
   obtain ⟨j,nd,rfl,HK,HD,rfl⟩ := hrel
   by_cases hlt : j + 1 < l.length
   ·have c1 := (own_at HW.out (j : Int) (by omega) (by omega)).1
    have c2 := (own_at HW.out ((j : Int) + 1) (by omega) (by omega)).1
    rw [Int.toNat_natCast] at c1
    rw [show ((j : Int) + 1).toNat = j + 1 from by omega] at c2
    have t1 : decide ((j : Int) + 1 < (l.length : Int)) = true := decide_eq_true (by omega)
    have p1 : ((0 : Int) ≤ (j : Int)) = True := eq_true (by omega)
    have p2 : ((j : Int) < (l.length : Int)) = True := eq_true (by omega)
    have p3 : ((0 : Int) ≤ (j : Int) + 1) = True := eq_true (by omega)
    have p4 : ((j : Int) + 1 < (l.length : Int)) = True := eq_true (by omega)
    by_cases he : rd l ((j : Int) + 1) = rd l (j : Int)
    ·have e1 : (rd l ((j : Int) + 1) == rd l (j : Int)) = true := beq_iff_eq.mpr he
     have HE := Aside0.mk he
     clear he
     go_wp2_with fail
     go_quiet (fail)
     go_wp2
     obtain ⟨N2,hN2⟩ : ∃ y,y = l.length - (j + 1) := ⟨_,rfl⟩
     obtain ⟨C2,hC2⟩ : ∃ y,y = c - (j + 1) := ⟨_,rfl⟩
     rw [← hN2,← hC2]
     have HN := Aside0.mk hN2
     have HC := Aside0.mk hC2
     clear hN2 hC2 c1 c2 t1 p1 p2 p3 p4 e1
     go_loopg [3,5] N2 (fun kq v3 v5 w' => ∃ (k m : Nat) (l' : List Int),v3 = .int .i64 (k : Int) ∧ v5 = .int .i64 ((m + 1 : Nat) : Int) ∧ Aside0 (kq + m = N2) ∧ Aside0 (1 ≤ k ∧ k ≤ j + 1 + m ∧ m + 1 ≤ N2) ∧ Aside0 (w'.ownsRow w0.heap.size 22 1 (.slice (some ⟨b,0,none⟩) l.length c) l.length (nums .u64 l')) ∧ Aside0 (Below w0.heap.size w0 w'))
     case atStart => exact ⟨j + 1,0,l,rfl,rfl,⟨by omega⟩,⟨by omega,by omega,by have := HN.out;omega⟩,⟨pw_own_drewN HW.out _⟩,⟨pw_below_drewN HB.out _⟩⟩
     case round =>
      obtain ⟨k,m,l',rfl,rfl,HK2,HM,HW2,HB2⟩ := hrel
      have hk1 := HM.out.1
      have hk2 := HM.out.2.1
      have hm2 := HM.out.2.2
      have hn2 := HN.out
      by_cases hlt2 : m + 1 < N2
      ·have c1 := (own_at HW2.out ((j + 1 + (m + 1) : Nat) : Int) (by omega) (by omega)).1
       have c2 := (own_at HW2.out ((j + 1 + m : Nat) : Int) (by omega) (by omega)).1
       obtain ⟨c3,f3⟩ := own_at HW2.out (k : Int) (by omega) (by omega)
       rw [Int.toNat_natCast] at c1 c2 c3 f3
       have t1 : decide ((m : Int) + 1 < (N2 : Int)) = true := decide_eq_true (by omega)
       have t2 : decide (m + 1 < N2) = true := decide_eq_true (by omega)
       have p1 : ((0 : Int) ≤ (m : Int)) = True := eq_true (by omega)
       have p2 : ((m : Int) < (N2 : Int)) = True := eq_true (by omega)
       have p3 : ((0 : Int) ≤ (m : Int) + 1) = True := eq_true (by omega)
       have p4 : ((m : Int) + 1 < (N2 : Int)) = True := eq_true (by omega)
       have p5 : ((0 : Int) ≤ (k : Int)) = True := eq_true (by omega)
       have p6 : ((k : Int) < (l.length : Int)) = True := eq_true (by omega)
       obtain ⟨x,hx⟩ : ∃ x,rd l' ((j + 1 + (m + 1) : Nat) : Int) = x := ⟨_,rfl⟩
       obtain ⟨y,hy⟩ : ∃ y,rd l' ((j + 1 + m : Nat) : Int) = y := ⟨_,rfl⟩
       rw [hx] at c1
       rw [hy] at c2
       have hwm := wrapI_id (n := (m : Int)) (by omega) (by omega)
       have hN2b : N2 ≤ 1099511627776 := by omega
       have hkb : k < l.length := by omega
       clear hx hy hn2
       by_cases he : x = y
       ·have e1 : (x != y) = false := bne_eq_false_iff_eq.mpr he
        clear he
        go_wp2_with fail
        go_quiet (fail)
        clear hwm
        go_wp2
        go_roundg (N2 - (m + 1))
        case measure => have := HK2.out;omega
        case rel => exact ⟨k,m + 1,l',rfl,by go_num,⟨by omega⟩,⟨by omega,by omega,by omega⟩,⟨pw_own_drewN HW2.out _⟩,⟨pw_below_drewN HB2.out _⟩⟩
       ·have e1 : (x != y) = true := bne_iff_ne.mpr he
        clear he
        go_wp2_with fail
        go_quiet (fail)
        clear hwm
        go_wp2
        go_roundg (N2 - (m + 1))
        case measure => have := HK2.out;omega
        case rel => exact ⟨k + 1,m + 1,l'.set k x,by go_num,by go_num,⟨by omega⟩,⟨by omega,by omega,by omega⟩,⟨(own_store (pw_own_drewN HW2.out nq) (k : Int) x).1⟩,⟨(pw_below_drewN HB2.out nq).setCell hb0 _⟩⟩
      ·have t1 : decide ((m : Int) + 1 < (N2 : Int)) = false := decide_eq_false (by omega)
       have t2 : decide (m + 1 < N2) = false := decide_eq_false (by omega)
       have hclr : ∀ ty,(Builtin.clear_ #[40] ty #[.slice (some ⟨b,k,none⟩) (l.length - k) (c - k)]).run Try.prog wr = .ok (.tuple #[]) (wr.setCells b k (List.replicate (l.length - k) (.int .u64 0))) := fun ty =>
        Lib.run_clear_slice wr 40 22 ty (.int .u64 0) Try.underlying40 Try.zeroValue22 rfl rfl b k (l.length - k) (c - k) (by omega)
         (fun j hj => by rw [show k + j = ((k + j : Nat) : Int).toNat from rfl,(own_at HW2.out ((k + j : Nat) : Int) (by omega) (by omega)).1];rfl)
         (fun j hj => by rw [show k + j = ((k + j : Nat) : Int).toNat from rfl,(own_at HW2.out ((k + j : Nat) : Int) (by omega) (by omega)).2])
       go_wp2
       first|go_ret|((try simp only [Exit.inBlock,Exit.then]);refine bodyPost_ret (results_tmp rfl _ _ rfl) rfl ?_)
       refine ⟨⟨_,_,_,rfl,⟨fun h => by omega,fun h => absurd HE.out (h j (by omega))⟩⟩,?_⟩
       exact below_cells HB2.out hb0 _ _
    ·have e1 : (rd l ((j : Int) + 1) == rd l (j : Int)) = false := beq_eq_false_iff_ne.mpr he
     have HE := Aside0.mk he
     clear he
     go_wp2_with fail
     go_quiet (fail)
     go_wp2
     go_roundg (l.length - (j + 1))
     case measure => have := HK.out;omega
     case rel =>
      refine ⟨j + 1,nd + nq,by go_num,⟨by omega⟩,⟨by omega,fun i hi => ?_⟩,by simp [World.drewN_drewN]⟩
      by_cases hij : i = j
      ·rw [hij];exact HE.out
      ·exact HD.out.2 i (by omega)
   ·have t1 : decide ((j : Int) + 1 < (l.length : Int)) = false := decide_eq_false (by omega)
    go_wp2
    first|go_ret|((try simp only [Exit.inBlock,Exit.then]);refine bodyPost_ret (results_tmp rfl _ _ rfl) rfl ?_)
    exact ⟨⟨_,_,_,rfl,⟨fun _ => by rw [show l.length = j + 1 from by have := HD.out.1;omega];exact HD.out.2,fun _ => rfl⟩⟩,pw_below_drewN HB.out nd⟩
end Go.Proofs.Ytmdoaijkaaaglaa.Hw
end
section
namespace Go.Proofs.Ytmdoaijkaaaglaa.Srt
open Go.RowKit Go.Proofs.Ytmdoaijkaaaglaa.Pr Go.Proofs.Ytmdoaijkaaaglaa.Hw Go.Proofs.YtmdoaijkaaaglaaW.PrintWords Go.Proofs.YtmdoaijkaaaglaaW.PrintLast Go.Proofs.YtmdoaijkaaaglaaW.PrintMore Go.Sort
theorem less_calls {x y : Int} {r : Bool} (h : ltInt x y = r) (w : World) : Calls Try.prog 111 #[.int .u64 x,.int .u64 y] w fun e w' => e = .returned (.bool r) ∧ ∃ n,w' = w.drewN n :=
 (cmp_Less_uint64.calls x y r w (by rw [sless,h])).mono fun e w' h => ⟨h.1,h.2.out⟩
set_option maxHeartbeats 2000000 in
set_option maxRecDepth 100000 in
theorem order2_walk (base : Nat) (l : List Int) (g c a b bs s : Nat) (w : World) (ho : w.ownsRow base 22 1 (.slice (some ⟨g,0,none⟩) l.length c) l.length (nums .u64 l)) (ha : a < l.length) (hb : b < l.length)
  (hS : w.heap[bs]? = some (.cells #[.int .i64 (s : Int)] 3 (0,0))) (hs : s < 1000000) :
  Calls Try.prog 121 #[.slice (some ⟨g,0,none⟩) l.length c,.int .i64 (a : Int),.int .i64 (b : Int),.pointer (some ⟨bs,0,none⟩)] w fun e w' =>
   e = .returned (.tuple #[.int .i64 ((order2 ltInt l.toArray a b s).1 : Int),.int .i64 ((order2 ltInt l.toArray a b s).2.1 : Int)]) ∧ Aside0 (w'.heap[bs]? = some (.cells #[.int .i64 ((order2 ltInt l.toArray a b s).2.2 : Int)] 3 (0,0))) ∧ Aside0 (RowKit.Below bs w w') := by
 have cb := (own_at ho (b : Int) (by omega) (by omega)).1
 have ca := (own_at ho (a : Int) (by omega) (by omega)).1
 rw [Int.toNat_natCast] at ca cb
 have HS := Aside0.mk hS
 have cs := blk_cell hS 0
 have fs := blk_frozen hS 0
 simp only [List.getElem?_toArray,List.getElem?_cons_zero] at cs
 have p1 : ((0 : Int) ≤ (a : Int)) = True := eq_true (by omega)
 have p2 : ((a : Int) < (l.length : Int)) = True := eq_true (by omega)
 have p3 : ((0 : Int) ≤ (b : Int)) = True := eq_true (by omega)
 have p4 : ((b : Int) < (l.length : Int)) = True := eq_true (by omega)
 have hq : ltInt (rd l (b : Int)) (rd l (a : Int)) = ltInt l.toArray[b]! l.toArray[a]! := by rw [srd,srd]
 obtain ⟨x,hx⟩ : ∃ x,rd l (b : Int) = x := ⟨_,rfl⟩
 obtain ⟨y,hy⟩ : ∃ y,rd l (a : Int) = y := ⟨_,rfl⟩
 rw [hx] at cb hq
 rw [hy] at ca hq
 clear hx hy hS ho
 cases hc : ltInt l.toArray[b]! l.toArray[a]! with
 | true =>
  have he : order2 ltInt l.toArray a b s = (b,a,s + 1) := by unfold order2;rw [hc,if_pos rfl]
  rw [he]
  rw [hc] at hq
  have HQ := Aside0.mk (fun w => less_calls hq w)
  clear he hq hc
  go_enter Try.func121,Try.ntmps121
  go_wp2
  go_quiet ((refine Calls.quiet_of (HQ.out _)))
  go_wp2
  first|go_ret2|((try simp only [Exit.inBlock,Exit.then]);refine bodyPost_ret (results_tmp2 rfl _ _ _) rfl ?_)
  refine ⟨rfl,⟨?_⟩,⟨?_⟩⟩
  ·exact blk_put (blk_drewN HS.out _) 0 _ (by simp)
  ·exact (pw_below_drewN (RowKit.Below.refl _ _) _).setCell (p := ⟨bs,0,none⟩) (Nat.le_refl _) _
 | false =>
  have he : order2 ltInt l.toArray a b s = (a,b,s) := by unfold order2;rw [hc,if_neg (by decide)]
  rw [he]
  rw [hc] at hq
  have HQ := Aside0.mk (fun w => less_calls hq w)
  clear he hq hc
  go_enter Try.func121,Try.ntmps121
  go_wp2
  go_quiet ((refine Calls.quiet_of (HQ.out _)))
  go_wp2
  first|go_ret2|((try simp only [Exit.inBlock,Exit.then]);refine bodyPost_ret (results_tmp2 rfl _ _ _) rfl ?_)
  exact ⟨rfl,⟨blk_drewN HS.out _⟩,⟨pw_below_drewN (RowKit.Below.refl _ _) _⟩⟩
theorem own_belowB {w w1 : World} {bs base : Nat} {e : TypeId} {g n c : Nat} {xs : List Value} (h : w.ownsRow base e 1 (.slice (some ⟨g,0,none⟩) n c) n xs) (hb : RowKit.Below bs w w1) (hg : g < bs) : w1.ownsRow base e 1 (.slice (some ⟨g,0,none⟩) n c) n xs :=
 own_move h fun k hk => by
  have e : (Value.slice (some ⟨g,0,none⟩) n c).ownBlock = some g := rfl
  rw [e] at hk
  obtain rfl := Option.some.inj hk
  exact hb.block g hg
theorem order2_lt (d : Array Int) {a b n : Nat} (s : Nat) (ha : a < n) (hb : b < n) : (order2 ltInt d a b s).1 < n ∧ (order2 ltInt d a b s).2.1 < n := by
 have := order2_mem ltInt d a b s
 omega
theorem order2_le (d : Array Int) (a b s : Nat) : (order2 ltInt d a b s).2.2 ≤ s + 1 := by unfold order2;split <;> simp
set_option maxHeartbeats 2000000 in
set_option maxRecDepth 100000 in
theorem median_walk (base : Nat) (l : List Int) (g q a b c bs s : Nat) (w : World) (ho : w.ownsRow base 22 1 (.slice (some ⟨g,0,none⟩) l.length q) l.length (nums .u64 l)) (ha : a < l.length) (hb : b < l.length) (hc : c < l.length) (hg : g < bs)
  (hS : w.heap[bs]? = some (.cells #[.int .i64 (s : Int)] 3 (0,0))) (hs : s < 1000) :
  Calls Try.prog 119 #[.slice (some ⟨g,0,none⟩) l.length q,.int .i64 (a : Int),.int .i64 (b : Int),.int .i64 (c : Int),.pointer (some ⟨bs,0,none⟩)] w fun e w' =>
   e = .returned (.int .i64 ((Go.Sort.median ltInt l.toArray a b c s).1 : Int)) ∧ Aside0 (w'.heap[bs]? = some (.cells #[.int .i64 ((Go.Sort.median ltInt l.toArray a b c s).2 : Int)] 3 (0,0))) ∧ Aside0 (RowKit.Below bs w w') := by
 have l1 := order2_lt l.toArray s ha hb
 have s1 := order2_le l.toArray a b s
 have o1 := fun w ho hS => order2_walk base l g q a b bs s w ho ha hb hS (by omega)
 have hm : Go.Sort.median ltInt l.toArray a b c s = ((order2 ltInt l.toArray (order2 ltInt l.toArray a b s).1 (order2 ltInt l.toArray (order2 ltInt l.toArray a b s).2.1 c (order2 ltInt l.toArray a b s).2.2).1 (order2 ltInt l.toArray (order2 ltInt l.toArray a b s).2.1 c (order2 ltInt l.toArray a b s).2.2).2.2).2.1,(order2 ltInt l.toArray (order2 ltInt l.toArray a b s).1 (order2 ltInt l.toArray (order2 ltInt l.toArray a b s).2.1 c (order2 ltInt l.toArray a b s).2.2).1 (order2 ltInt l.toArray (order2 ltInt l.toArray a b s).2.1 c (order2 ltInt l.toArray a b s).2.2).2.2).2.2) := rfl
 rw [hm]
 clear hm
 obtain ⟨r1,e1⟩ : ∃ r,r = order2 ltInt l.toArray a b s := ⟨_,rfl⟩
 rw [← e1] at l1 s1 o1 ⊢
 have l2 := order2_lt l.toArray r1.2.2 l1.2 hc
 have s2 := order2_le l.toArray r1.2.1 c r1.2.2
 have o2 := fun w ho hS => order2_walk base l g q r1.2.1 c bs r1.2.2 w ho l1.2 hc hS (by omega)
 obtain ⟨r2,e2⟩ : ∃ r,r = order2 ltInt l.toArray r1.2.1 c r1.2.2 := ⟨_,rfl⟩
 rw [← e2] at l2 s2 o2 ⊢
 have o3 := fun w ho hS => order2_walk base l g q r1.1 r2.1 bs r2.2.2 w ho l1.1 l2.1 hS (by omega)
 obtain ⟨r3,e3⟩ : ∃ r,r = order2 ltInt l.toArray r1.1 r2.1 r2.2.2 := ⟨_,rfl⟩
 rw [← e3] at o3 ⊢
 obtain ⟨x1,y1,z1⟩ := r1
 obtain ⟨x2,y2,z2⟩ := r2
 obtain ⟨x3,y3,z3⟩ := r3
 dsimp only at o1 o2 o3 ⊢
 have O1 := Aside0.mk (o1 w ho hS)
 have O2 := Aside0.mk o2
 have O3 := Aside0.mk o3
 have HO := Aside0.mk ho
 have HG := Aside0.mk hg
 clear e1 e2 e3 l1 l2 s1 s2 o1 o2 o3 ho hS hg ha hb hc hs
 go_enter Try.func119,Try.ntmps119
 go_wp2_with fail
 go_at_call 121
 refine O1.out.mono ?_
 rintro e w1 ⟨rfl,H1,B1⟩
 go_wp2_with fail
 go_at_call 121
 refine (O2.out w1 (own_belowB HO.out B1.out HG.out) H1.out).mono ?_
 rintro e w2 ⟨rfl,H2,B2⟩
 go_wp2_with fail
 go_at_call 121
 refine (O3.out w2 (own_belowB (own_belowB HO.out B1.out HG.out) B2.out HG.out) H2.out).mono ?_
 rintro e w3 ⟨rfl,H3,B3⟩
 go_wp2_with fail
 first|go_ret|((try simp only [Exit.inBlock,Exit.then]);refine bodyPost_ret (results_tmp rfl _ _ _) rfl ?_)
 exact ⟨rfl,H3,⟨(B1.out.trans B2.out).trans B3.out⟩⟩
def hintN : Hint → Int
 | .unknown => 0
 | .increasing => 1
 | .decreasing => 2
theorem median_le (d : Array Int) (i j k : Nat) : (Go.Sort.median ltInt d i j k 0).2 ≤ 3 := by
 unfold Go.Sort.median
 have a1 := order2_le d i j 0
 have a2 := order2_le d (order2 ltInt d i j 0).2.1 k (order2 ltInt d i j 0).2.2
 have a3 := order2_le d (order2 ltInt d i j 0).1 (order2 ltInt d (order2 ltInt d i j 0).2.1 k (order2 ltInt d i j 0).2.2).1 (order2 ltInt d (order2 ltInt d i j 0).2.1 k (order2 ltInt d i j 0).2.2).2.2
 exact Nat.le_trans a3 (by omega)
theorem choose_small (d : Array Int) (a b : Nat) (h1 : 12 < b - a) (h2 : b - a < 50) : choosePivot ltInt d a b =
  ((Go.Sort.median ltInt d (a + (b - a) / 4) (a + (b - a) / 4 * 2) (a + (b - a) / 4 * 3) 0).1,if (Go.Sort.median ltInt d (a + (b - a) / 4) (a + (b - a) / 4 * 2) (a + (b - a) / 4 * 3) 0).2 = 0 then .increasing else .unknown) := by
 have hm := median_le d (a + (b - a) / 4) (a + (b - a) / 4 * 2) (a + (b - a) / 4 * 3)
 unfold choosePivot
 simp only [Nat.mul_one]
 rw [if_pos (show b - a ≥ 8 by omega),if_neg (show ¬ b - a ≥ 50 by omega)]
 generalize Go.Sort.median ltInt d (a + (b - a) / 4) (a + (b - a) / 4 * 2) (a + (b - a) / 4 * 3) 0 = r at hm
 obtain ⟨x,y⟩ := r
 dsimp only at hm ⊢
 by_cases h0 : y = 0
 ·rw [if_pos h0,if_pos h0]
 ·rw [if_neg h0,if_neg h0,if_neg (by omega)]
set_option maxHeartbeats 2000000 in
set_option maxRecDepth 100000 in
theorem pivot_walk (base : Nat) (l : List Int) (g q a b : Nat) (w : World) (ho : w.ownsRow base 22 1 (.slice (some ⟨g,0,none⟩) l.length q) l.length (nums .u64 l)) (hb : b ≤ l.length) (h1 : 12 < b - a) (h2 : b - a < 50) (hl : l.length < 1000000) :
  Calls Try.prog 108 #[.slice (some ⟨g,0,none⟩) l.length q,.int .i64 (a : Int),.int .i64 (b : Int)] w fun e w' =>
   e = .returned (.tuple #[.int .i64 ((choosePivot ltInt l.toArray a b).1 : Int),.int .i64 (hintN (choosePivot ltInt l.toArray a b).2)]) ∧ Aside0 (RowKit.Below w.heap.size w w') := by
 have hg : g < w.heap.size := own_lt ho g rfl
 have hm := median_walk base l g q (a + (b - a) / 4) (a + (b - a) / 4 * 2) (a + (b - a) / 4 * 3) w.heap.size 0 (w.alloc (.cells #[.int .i64 0] 3)) (pw_own_below ho (below_alloc (RowKit.Below.refl _ _) _)) (by omega) (by omega) (by omega) hg (blk_new w _) (by omega)
 rw [choose_small _ a b h1 h2]
 obtain ⟨r,hr⟩ : ∃ r,r = Go.Sort.median ltInt l.toArray (a + (b - a) / 4) (a + (b - a) / 4 * 2) (a + (b - a) / 4 * 3) 0 := ⟨_,rfl⟩
 have hy3 := median_le l.toArray (a + (b - a) / 4) (a + (b - a) / 4 * 2) (a + (b - a) / 4 * 3)
 rw [← hr] at hm hy3 ⊢
 clear hr ho hg
 obtain ⟨x,y⟩ := r
 dsimp only at hm hy3 ⊢
 obtain ⟨L,hL⟩ : ∃ L,L = b - a := ⟨_,rfl⟩
 obtain rfl : b = a + L := by omega
 rw [← hL] at hm
 have HM := Aside0.mk hm
 clear hm hL
 have q1 : decide ((L : Int) ≥ 8) = true := decide_eq_true (by omega)
 have q2 : decide ((L : Int) ≥ 50) = false := decide_eq_false (by omega)
 have hsub : ((a + L : Nat) : Int) - (a : Int) = (L : Int) := by omega
 have HA := Aside0.mk (below_alloc (RowKit.Below.refl w.heap.size w) (.cells #[.int .i64 0] 3))
 by_cases h0 : y = 0
 ·have t1 : ((y : Int) == 0) = true := beq_iff_eq.mpr (by omega)
  rw [if_pos h0]
  clear h0
  go_enter Try.func108,Try.ntmps108
  go_wp2_with fail
  refine calls_of_args (args' := #[.slice (some ⟨g,0,none⟩) l.length q,.int .i64 ((a + L / 4 : Nat) : Int),.int .i64 ((a + L / 4 * 2 : Nat) : Int),.int .i64 ((a + L / 4 * 3 : Nat) : Int),.pointer (some ⟨w.heap.size,0,none⟩)]) ?_ (HM.out.mono ?_)
  ·rw [show ((a + L / 4 : Nat) : Int) = (a : Int) + ((a : Int) + (L : Int) - (a : Int)) / 4 from by omega,show ((a + L / 4 * 2 : Nat) : Int) = (a : Int) + ((a : Int) + (L : Int) - (a : Int)) / 4 * 2 from by omega,show ((a + L / 4 * 3 : Nat) : Int) = (a : Int) + ((a : Int) + (L : Int) - (a : Int)) / 4 * 3 from by omega]
  rintro e w1 ⟨rfl,H1,B1⟩
  have c0 := blk_cell H1.out 0
  simp only [List.getElem?_toArray,List.getElem?_cons_zero] at c0
  have HB := Aside0.mk (HA.out.trans B1.out)
  clear H1 HM HA B1
  go_wp2_with fail
  first|go_ret2|((try simp only [Exit.inBlock,Exit.then]);refine bodyPost_ret (results_tmp2 rfl _ _ _) rfl ?_)
  exact ⟨rfl,HB⟩
 ·have t1 : ((y : Int) == 0) = false := beq_eq_false_iff_ne.mpr (by omega)
  have t2 : ((y : Int) == 12) = false := beq_eq_false_iff_ne.mpr (by omega)
  rw [if_neg h0]
  clear h0
  go_enter Try.func108,Try.ntmps108
  go_wp2_with fail
  refine calls_of_args (args' := #[.slice (some ⟨g,0,none⟩) l.length q,.int .i64 ((a + L / 4 : Nat) : Int),.int .i64 ((a + L / 4 * 2 : Nat) : Int),.int .i64 ((a + L / 4 * 3 : Nat) : Int),.pointer (some ⟨w.heap.size,0,none⟩)]) ?_ (HM.out.mono ?_)
  ·rw [show ((a + L / 4 : Nat) : Int) = (a : Int) + ((a : Int) + (L : Int) - (a : Int)) / 4 from by omega,show ((a + L / 4 * 2 : Nat) : Int) = (a : Int) + ((a : Int) + (L : Int) - (a : Int)) / 4 * 2 from by omega,show ((a + L / 4 * 3 : Nat) : Int) = (a : Int) + ((a : Int) + (L : Int) - (a : Int)) / 4 * 3 from by omega]
  rintro e w1 ⟨rfl,H1,B1⟩
  have c0 := blk_cell H1.out 0
  simp only [List.getElem?_toArray,List.getElem?_cons_zero] at c0
  have HB := Aside0.mk (HA.out.trans B1.out)
  clear H1 HM HA B1
  go_wp2_with fail
  first|go_ret2|((try simp only [Exit.inBlock,Exit.then]);refine bodyPost_ret (results_tmp2 rfl _ _ _) rfl ?_)
  exact ⟨rfl,HB⟩
theorem set_set (w : World) (b i : Nat) (u v : Value) : (w.setCell ⟨b,i,none⟩ u).setCell ⟨b,i,none⟩ v = w.setCell ⟨b,i,none⟩ v := by
 rw [setCell_eq,setCell_eq,mapBlock_mapBlock,setCell_eq]
 congr 1
 funext c
 simp
set_option maxHeartbeats 2000000 in
set_option maxRecDepth 100000 in
theorem next_walk (br X : Nat) (hX : X < 18446744073709551616) (w : World) (hS : w.heap[br]? = some (.cells #[.int .u64 (X : Int)] 130 (0,0))) :
  Calls Try.prog 117 #[.pointer (some ⟨br,0,none⟩)] w fun e w' => e = .returned (.int .u64 ((xorNextN X : Nat) : Int)) ∧ Aside0 (w'.heap[br]? = some (.cells #[.int .u64 ((xorNextN X : Nat) : Int)] 130 (0,0))) ∧ Aside0 (RowKit.Below br w w') := by
 obtain ⟨A,hA⟩ : ∃ A : Nat,A = X ^^^ (X * 8192 % 18446744073709551616) := ⟨_,rfl⟩
 obtain ⟨B,hB⟩ : ∃ B : Nat,B = A ^^^ (A / 128) := ⟨_,rfl⟩
 obtain ⟨C,hC⟩ : ∃ C : Nat,C = B ^^^ (B * 131072 % 18446744073709551616) := ⟨_,rfl⟩
 have lA : A < 18446744073709551616 := by rw [hA];exact Nat.xor_lt_two_pow (n := 64) (by omega) (by omega)
 have lB : B < 18446744073709551616 := by rw [hB];exact Nat.xor_lt_two_pow (n := 64) (by omega) (by omega)
 have g1 : bits .xor .u64 (X : Int) (IntKind.u64.wrap ((X : Int) * 8192)) = (A : Int) := by
  rw [IntKind.wrap_u64,show ((X : Int) * 8192 % 18446744073709551616) = ((X * 8192 % 18446744073709551616 : Nat) : Int) by omega,bits_xor_u64_nat _ _ hX (by omega),hA]
 have g2 : bits .xor .u64 (A : Int) ((A : Int) / 128) = (B : Int) := by
  rw [show ((A : Int) / 128) = ((A / 128 : Nat) : Int) by omega,bits_xor_u64_nat _ _ lA (by omega),hB]
 have g3 : bits .xor .u64 (B : Int) (IntKind.u64.wrap ((B : Int) * 131072)) = (C : Int) := by
  rw [IntKind.wrap_u64,show ((B : Int) * 131072 % 18446744073709551616) = ((B * 131072 % 18446744073709551616 : Nat) : Int) by omega,bits_xor_u64_nat _ _ lB (by omega),hC]
 have hv : xorNextN X = C := by unfold xorNextN;simp only [];rw [← hA,← hB,← hC]
 rw [hv]
 have HS := Aside0.mk hS
 have c0 := blk_cell hS 0
 have f0 := blk_frozen hS 0
 simp only [List.getElem?_toArray,List.getElem?_cons_zero] at c0
 have hss := fun u v => set_set w br 0 u v
 clear hA hB hC hv hS hX lA lB
 go_enter Try.func117,Try.ntmps117
 go_wp2
 go_region
 all_goals go_wp2
 all_goals go_region
 all_goals go_wp2
 all_goals go_region
 all_goals go_wp2
 first|go_ret|((try simp only [Exit.inBlock,Exit.then]);refine bodyPost_ret (results_tmp rfl _ _ _) rfl ?_)
 refine ⟨rfl,⟨?_⟩,⟨?_⟩⟩
 ·exact blk_put (w := w) HS.out 0 _ (by simp)
 ·exact below_drew (below_drew (below_drew ((RowKit.Below.refl _ _).setCell (p := ⟨br,0,none⟩) (Nat.le_refl _) _)))
theorem len_tab : ∀ n : Nat,n < 50 → bits_Len.f 3 (n : Int) = some ((bitsLen n : Nat) : Int) := by
 have h : (List.range 50).all (fun (n : Nat) => bits_Len.f 3 (n : Int) == some ((bitsLen n : Nat) : Int)) = true := by decide +kernel
 intro n hn
 exact eq_of_beq (List.all_eq_true.1 h n (List.mem_range.2 hn))
theorem pow_bitsLen (n : Nat) (hn : n < 50) : IntKind.u64.wrap ((2 : Int) ^ bitsLen n) = ((1 <<< bitsLen n : Nat) : Int) := by
 have hk : bitsLen n ≤ 6 := (bitsLen_le_iff n 6).2 (by omega)
 have h : (2 : Nat) ^ bitsLen n ≤ 2 ^ 6 := Nat.pow_le_pow_right (by decide) hk
 rw [IntKind.wrap_u64,Nat.one_shiftLeft,show ((2 : Int) ^ bitsLen n) = ((2 ^ bitsLen n : Nat) : Int) by push_cast;rfl]
 generalize (2 : Nat) ^ bitsLen n = p at h
 omega
set_option maxRecDepth 100000 in
theorem pow_walk (n : Nat) (hn : n < 50) (w : World) : Calls Try.prog 116 #[.int .i64 (n : Int)] w fun e w' => e = .returned (.int .u64 ((1 <<< bitsLen n : Nat) : Int)) ∧ Aside0 (∃ m,w' = w.drewN m) := by
 have HL := Aside0.mk (len_tab n hn)
 have hk : bitsLen n ≤ 6 := (bitsLen_le_iff n 6).2 (by omega)
 have hp := pow_bitsLen n hn
 obtain ⟨k,hkk⟩ : ∃ k,k = bitsLen n := ⟨_,rfl⟩
 rw [← hkk] at HL hp hk ⊢
 clear hkk
 go_enter Try.func116,Try.ntmps116
 go_wp2_with (first|(go_at_call 103;(refine (bits_Len.calls 3 _ (k : Int) _ HL.out).mono ?_);rintro e w' ⟨rfl,⟨nd,rfl⟩⟩))
 first|go_ret|((try simp only [Exit.inBlock,Exit.then]);refine bodyPost_ret (results_tmp rfl _ _ _) rfl ?_)
 exact ⟨by first|rfl|(rw [← hp];rfl)|(congr 1;exact hp),⟨_,rfl⟩⟩
def bpN (a L M i0 : Nat) (st : UInt64 × Array Int) : Nat → UInt64 × Array Int
 | 0 => st
 | t + 1 => breakStep a L M (bpN a L M i0 st t) (i0 + t)
theorem break_eq (d : Array Int) (a L : Nat) (h8 : 8 ≤ L) : breakPatterns d a (a + L) = (bpN a L (1 <<< bitsLen L) (a + L / 4 * 2 - 1) (UInt64.ofNat L,d) 3).2 := by
 unfold breakPatterns
 simp only [Nat.add_sub_cancel_left]
 rw [if_pos h8]
 rfl
theorem bpN_next (a L M i0 : Nat) (st : UInt64 × Array Int) (t : Nat) (l : List Int) (r : UInt64) (h1 : (bpN a L M i0 st t).1 = r) (h2 : (bpN a L M i0 st t).2 = l.toArray) (o : Nat)
  (ho : o = (if (xorNext r).toNat &&& (M - 1) ≥ L then ((xorNext r).toNat &&& (M - 1)) - L else (xorNext r).toNat &&& (M - 1))) :
  (bpN a L M i0 st (t + 1)).1 = xorNext r ∧ (bpN a L M i0 st (t + 1)).2 = ((l.set (i0 + t) (rd l ((a + o : Nat) : Int))).set (a + o) (rd l ((i0 + t : Nat) : Int))).toArray := by
 rw [sswp]
 rw [bpN]
 unfold breakStep
 simp only [h1,h2,← ho]
 exact ⟨trivial,trivial⟩
theorem own_swap {w : World} {base g n c : Nat} {l : List Int} (h : w.ownsRow base 22 1 (.slice (some ⟨g,0,none⟩) n c) n (nums .u64 l)) (i j : Nat) (x y : Int) :
  ((w.setCell ⟨g,i,none⟩ (.int .u64 x)).setCell ⟨g,j,none⟩ (.int .u64 y)).ownsRow base 22 1 (.slice (some ⟨g,0,none⟩) n c) n (nums .u64 ((l.set i x).set j y)) := by
 have h1 := (own_store h (i : Int) x).1
 have h2 := (own_store h1 (j : Int) y).1
 simpa using h2
set_option maxHeartbeats 4000000 in
set_option maxRecDepth 100000 in
theorem break_walk (l : List Int) (g q a L : Nat) (w0 w : World) (hB : RowKit.Below w0.heap.size w0 w) (ho : w.ownsRow w0.heap.size 22 1 (.slice (some ⟨g,0,none⟩) l.length q) l.length (nums .u64 l)) (hb : a + L ≤ l.length) (h1 : 12 < L) (h2 : L < 50) (hl : l.length < 1000000) :
  Calls Try.prog 107 #[.slice (some ⟨g,0,none⟩) l.length q,.int .i64 (a : Int),.int .i64 ((a + L : Nat) : Int)] w fun e w' =>
   e = .returned (.tuple #[]) ∧ Aside0 (w'.ownsRow w0.heap.size 22 1 (.slice (some ⟨g,0,none⟩) l.length q) l.length (nums .u64 (breakPatterns l.toArray a (a + L)).toList)) ∧ Aside0 (RowKit.Below w0.heap.size w0 w') := by
 rw [break_eq _ a L (by omega)]
 have HP := Aside0.mk (fun w => pow_walk L h2 w)
 have hM1 : 1 ≤ 1 <<< bitsLen L := by rw [Nat.one_shiftLeft];exact Nat.two_pow_pos _
 have hM2 : 1 <<< bitsLen L ≤ 2 * L := by rw [Nat.one_shiftLeft];exact two_pow_bitsLen_le (by omega)
 obtain ⟨M,hM⟩ : ∃ M : Nat,M = 1 <<< bitsLen L := ⟨_,rfl⟩
 rw [← hM] at HP hM1 hM2 ⊢
 clear hM
 have hg : g < w.heap.size := own_lt ho g rfl
 have hgb : w0.heap.size ≤ g := own_base ho g rfl
 obtain ⟨br,hbr⟩ : ∃ b,b = w.heap.size := ⟨_,rfl⟩
 have HBR := Aside0.mk hbr
 have HO0 := Aside0.mk (pw_own_below ho (below_alloc (RowKit.Below.refl _ _) (.cells #[.int .u64 (L : Int)] 130)))
 have HB0 := Aside0.mk (below_alloc hB (.cells #[.int .u64 (L : Int)] 130))
 have HS0 := Aside0.mk (show (w.alloc (.cells #[.int .u64 (L : Int)] 130)).heap[br]? = some (.cells #[.int .u64 (((UInt64.ofNat L).toNat : Nat) : Int)] 130 (0,0)) by
  rw [hbr,show (UInt64.ofNat L).toNat = L from by simp;omega];exact blk_new w _)
 have hgr : g < br := by omega
 have hbw : w0.heap.size ≤ br := by omega
 clear hbr ho hB hg
 go_enter Try.func107,Try.ntmps107
 go_wp2_with fail
 rw [show (a : Int) + (L : Int) - (a : Int) = (L : Int) from by omega,← HBR.out]
 refine (HP.out _).mono ?_
 rintro e w1 ⟨rfl,⟨nd,rfl⟩⟩
 have HO1 := Aside0.mk (pw_own_drewN HO0.out nd)
 have HB1 := Aside0.mk (pw_below_drewN HB0.out nd)
 have HS1 := Aside0.mk (blk_drewN HS0.out nd)
 clear HO0 HB0 HS0 HP
 go_wp2_with fail
 go_loopg [9,10] 3 (fun kq v9 v10 w' => ∃ (t : Nat) (r : UInt64) (dk : List Int),v9 = .int .i64 ((a + L / 4 * 2 - 1 + t : Nat) : Int) ∧ Aside0 (kq + t = 3) ∧ Aside0 ((bpN a L M (a + L / 4 * 2 - 1) (UInt64.ofNat L,l.toArray) t).1 = r ∧ (bpN a L M (a + L / 4 * 2 - 1) (UInt64.ofNat L,l.toArray) t).2 = dk.toArray ∧ dk.length = l.length) ∧
  Aside0 (w'.ownsRow w0.heap.size 22 1 (.slice (some ⟨g,0,none⟩) l.length q) l.length (nums .u64 dk)) ∧ Aside0 (w'.heap[br]? = some (.cells #[.int .u64 ((r.toNat : Nat) : Int)] 130 (0,0))) ∧ Aside0 (RowKit.Below w0.heap.size w0 w'))
 case atStart => exact ⟨0,UInt64.ofNat L,l,by first|rfl|(congr 1;omega),⟨rfl⟩,⟨rfl,rfl,rfl⟩,HO1,HS1,HB1⟩
 case round =>
  clear HO1 HB1 HS1
  obtain ⟨t,r,dk,rfl,HK,HR,HO,HS,HB⟩ := hrel
  by_cases ht : t < 3
  ·obtain ⟨R,hR⟩ : ∃ R : Nat,R = r.toNat := ⟨_,rfl⟩
   have lR : R < 18446744073709551616 := by rw [hR];exact r.toNat_lt
   obtain ⟨R',hR'⟩ : ∃ R' : Nat,R' = xorNextN R := ⟨_,rfl⟩
   have lR' : R' < 18446744073709551616 := by rw [hR'];exact xorNextN_lt R lR
   obtain ⟨O,hO⟩ : ∃ O : Nat,O = R' &&& (M - 1) := ⟨_,rfl⟩
   have lO : O ≤ M - 1 := by rw [hO];exact Nat.and_le_right
   have eAnd : bits .and .u64 (R' : Int) ((M : Int) - 1) = (O : Int) := by
    rw [show ((M : Int) - 1) = ((M - 1 : Nat) : Int) by omega,u64_and_nat _ _ lR' (by omega),hO]
   have HN := Aside0.mk (next_walk br R lR wr (by rw [hR];exact HS.out))
   have eX : R' = (xorNext r).toNat := by rw [hR',hR,xorNext_toNat]
   have HX := Aside0.mk (And.intro eX (show O = (xorNext r).toNat &&& (M - 1) by rw [hO,eX]))
   rw [← hR'] at HN
   clear hR hR' hO eX lR lR'
   have q1 : ((a + L / 4 * 2 - 1 + t : Nat) : Int) ≤ (a : Int) + (L : Int) / 4 * 2 + 1 := by omega
   go_wp2_with fail
   refine HN.out.mono ?_
   rintro e w2 ⟨rfl,HS2,B2⟩
   have HO2 := Aside0.mk (own_belowB HO.out B2.out hgr)
   have HB2 := Aside0.mk (HB.out.trans (B2.out.mono hbw))
   clear HN HO HB B2
   obtain ⟨I,hI⟩ : ∃ I : Nat,I = a + L / 4 * 2 - 1 + t := ⟨_,rfl⟩
   have hI2 : a ≤ I ∧ I < a + L := by omega
   by_cases hLO : L ≤ O
   ·obtain ⟨J,hJ⟩ : ∃ J : Nat,J = O - L := ⟨_,rfl⟩
    have hJ2 : J < L := by omega
    have hwr : (O : Int) - (L : Int) = (J : Int) := by omega
    have HJ := Aside0.mk (show J = (if (xorNext r).toNat &&& (M - 1) ≥ L then ((xorNext r).toNat &&& (M - 1)) - L else (xorNext r).toNat &&& (M - 1)) by rw [← HX.out.2,if_pos hLO];exact hJ)
    have hJ3 : a + J < l.length := by omega
    have HX' := Aside0.mk HX.out.1
    clear HX hJ
    go_wp2_with fail
    have hdl := HR.out.2.2
    have c1 := own_at HO2.out ((a + L / 4 * 2 - 1 + t : Nat) : Int) (by omega) (by omega)
    have c2 := own_at HO2.out ((a + J : Nat) : Int) (by omega) (by omega)
    rw [Int.toNat_natCast] at c1 c2
    have HNX := Aside0.mk (bpN_next a L M (a + L / 4 * 2 - 1) (UInt64.ofNat L,l.toArray) t dk r HR.out.1 HR.out.2.1 J HJ.out)
    obtain ⟨x1,ex1⟩ : ∃ x,x = rd dk ((a + L / 4 * 2 - 1 + t : Nat) : Int) := ⟨_,rfl⟩
    obtain ⟨x2,ex2⟩ : ∃ x,x = rd dk ((a + J : Nat) : Int) := ⟨_,rfl⟩
    rw [← ex1,← ex2] at HNX
    rw [← ex1] at c1
    rw [← ex2] at c2
    obtain ⟨c1,f1⟩ := c1
    obtain ⟨c2,f2⟩ := c2
    have HO3 := Aside0.mk (pw_own_below (own_swap HO2.out (a + L / 4 * 2 - 1 + t) (a + J) x2 x1) (below_drew (RowKit.Below.refl _ _)))
    have HB3 := Aside0.mk (below_drew ((HB2.out.setCell (p := ⟨g,a + L / 4 * 2 - 1 + t,none⟩) hgb (.int .u64 x2)).setCell (p := ⟨g,a + J,none⟩) hgb (.int .u64 x1)))
    have HS3 := Aside0.mk (blk_drew (blk_far (p := ⟨g,a + J,none⟩) (blk_far (p := ⟨g,a + L / 4 * 2 - 1 + t,none⟩) HS2.out (show br ≠ g by omega) (.int .u64 x2)) (show br ≠ g by omega) (.int .u64 x1)))
    have HLn := Aside0.mk (show ((dk.set (a + L / 4 * 2 - 1 + t) x2).set (a + J) x1).length = l.length by rw [slen];exact hdl)
    have HKt := Aside0.mk (show 3 - (t + 1) + (t + 1) = 3 by omega)
    have EX := Aside0.mk (And.intro ex1 ex2)
    have hX2 := HX'.out
    clear hdl ex1 ex2 hI hI2
    by_cases hEq : a + L / 4 * 2 - 1 + t = a + J
    ·have h12 : x1 = x2 := by rw [EX.out.1,EX.out.2,hEq]
     subst h12
     rw [hEq] at HO3 HB3 HS3 HLn HNX
     go_region
     all_goals go_wp2
     go_roundg (3 - (t + 1))
     case measure => have := HK.out;omega
     case rel => exact ⟨t + 1,xorNext r,_,by congr 1 <;> omega,HKt,⟨HNX.out.1,HNX.out.2,HLn.out⟩,HO3,by rw [hX2] at HS3;exact HS3,HB3⟩
    ·go_region
     all_goals go_wp2
     go_roundg (3 - (t + 1))
     case measure => have := HK.out;omega
     case rel => exact ⟨t + 1,xorNext r,_,by congr 1 <;> omega,HKt,⟨HNX.out.1,HNX.out.2,HLn.out⟩,HO3,by rw [hX2] at HS3;exact HS3,HB3⟩
   ·obtain ⟨J,hJ⟩ : ∃ J : Nat,J = O := ⟨_,rfl⟩
    subst hJ
    have hJ2 : J < L := by omega
    have HJ := Aside0.mk (show J = (if (xorNext r).toNat &&& (M - 1) ≥ L then ((xorNext r).toNat &&& (M - 1)) - L else (xorNext r).toNat &&& (M - 1)) by rw [← HX.out.2,if_neg hLO])
    have hJ3 : a + J < l.length := by omega
    have HX' := Aside0.mk HX.out.1
    clear HX
    go_wp2_with fail
    have hdl := HR.out.2.2
    have c1 := own_at HO2.out ((a + L / 4 * 2 - 1 + t : Nat) : Int) (by omega) (by omega)
    have c2 := own_at HO2.out ((a + J : Nat) : Int) (by omega) (by omega)
    rw [Int.toNat_natCast] at c1 c2
    have HNX := Aside0.mk (bpN_next a L M (a + L / 4 * 2 - 1) (UInt64.ofNat L,l.toArray) t dk r HR.out.1 HR.out.2.1 J HJ.out)
    obtain ⟨x1,ex1⟩ : ∃ x,x = rd dk ((a + L / 4 * 2 - 1 + t : Nat) : Int) := ⟨_,rfl⟩
    obtain ⟨x2,ex2⟩ : ∃ x,x = rd dk ((a + J : Nat) : Int) := ⟨_,rfl⟩
    rw [← ex1,← ex2] at HNX
    rw [← ex1] at c1
    rw [← ex2] at c2
    obtain ⟨c1,f1⟩ := c1
    obtain ⟨c2,f2⟩ := c2
    have HO3 := Aside0.mk (pw_own_below (own_swap HO2.out (a + L / 4 * 2 - 1 + t) (a + J) x2 x1) (below_drew (RowKit.Below.refl _ _)))
    have HB3 := Aside0.mk (below_drew ((HB2.out.setCell (p := ⟨g,a + L / 4 * 2 - 1 + t,none⟩) hgb (.int .u64 x2)).setCell (p := ⟨g,a + J,none⟩) hgb (.int .u64 x1)))
    have HS3 := Aside0.mk (blk_drew (blk_far (p := ⟨g,a + J,none⟩) (blk_far (p := ⟨g,a + L / 4 * 2 - 1 + t,none⟩) HS2.out (show br ≠ g by omega) (.int .u64 x2)) (show br ≠ g by omega) (.int .u64 x1)))
    have HLn := Aside0.mk (show ((dk.set (a + L / 4 * 2 - 1 + t) x2).set (a + J) x1).length = l.length by rw [slen];exact hdl)
    have HKt := Aside0.mk (show 3 - (t + 1) + (t + 1) = 3 by omega)
    have EX := Aside0.mk (And.intro ex1 ex2)
    have hX2 := HX'.out
    clear hdl ex1 ex2 hI hI2
    by_cases hEq : a + L / 4 * 2 - 1 + t = a + J
    ·have h12 : x1 = x2 := by rw [EX.out.1,EX.out.2,hEq]
     subst h12
     rw [hEq] at HO3 HB3 HS3 HLn HNX
     go_region
     all_goals go_wp2
     go_roundg (3 - (t + 1))
     case measure => have := HK.out;omega
     case rel => exact ⟨t + 1,xorNext r,_,by congr 1 <;> omega,HKt,⟨HNX.out.1,HNX.out.2,HLn.out⟩,HO3,by rw [hX2] at HS3;exact HS3,HB3⟩
    ·go_region
     all_goals go_wp2
     go_roundg (3 - (t + 1))
     case measure => have := HK.out;omega
     case rel => exact ⟨t + 1,xorNext r,_,by congr 1 <;> omega,HKt,⟨HNX.out.1,HNX.out.2,HLn.out⟩,HO3,by rw [hX2] at HS3;exact HS3,HB3⟩
  ·have ht3 : t = 3 := by have := HK.out;omega
   subst ht3
   have q1 : decide (((a + L / 4 * 2 - 1 + 3 : Nat) : Int) ≤ (a : Int) + (L : Int) / 4 * 2 + 1) = false := decide_eq_false (by omega)
   go_wp2_with fail
   first|go_end0|((try simp only [Exit.inBlock,Exit.then]);refine bodyPost_ret (results_none rfl _ _ _) rfl ?_)|go_ret
   refine ⟨rfl,⟨?_⟩,HB⟩
   have hl3 : (bpN a L M (a + L / 4 * 2 - 1) (UInt64.ofNat L,l.toArray) 3).2.toList = dk := by rw [HR.out.2.1]
   rw [hl3]
   exact HO.out
theorem peq_range (a : Nat) : ∀ (n i j : Nat) (d : Array Int),j + 1 ≤ i + n → 1 ≤ i → i ≤ (partEqLoop ltInt a i j d).1 ∧ (partEqLoop ltInt a i j d).1 ≤ max i (j + 1) ∧ (partEqLoop ltInt a i j d).2.size = d.size := by
 intro n
 induction n with
 | zero =>
  intro i j d hn hi
  have h1 : scanUp (fun x => !ltInt d[a]! x) d j i = i := su_stop _ _ _ _ (by omega)
  have h2 : scanDown (fun x => ltInt d[a]! x) d i j = j := sd_stop _ _ _ _ hi (by omega)
  rw [partEqLoop_eq a i j i j _ h1.symm h2.symm hi,if_pos (by omega)]
  exact ⟨Nat.le_refl _,Nat.le_max_left _ _,rfl⟩
 | succ n ih =>
  intro i j d hn hi
  obtain ⟨i2,hi2⟩ : ∃ x,x = scanUp (fun x => !ltInt d[a]! x) d j i := ⟨_,rfl⟩
  obtain ⟨j2,hj2⟩ : ∃ x,x = scanDown (fun x => ltInt d[a]! x) d i2 j := ⟨_,rfl⟩
  have b1 := su_ge (fun x => !ltInt d[a]! x) d j (j + 1) i (by omega)
  rw [← hi2] at b1
  have b2 := (sd_le (fun x => ltInt d[a]! x) d i2 (Nat.le_trans hi b1.1) j).1
  rw [← hj2] at b2
  rw [partEqLoop_eq a i j i2 j2 _ hi2 hj2 hi]
  clear hi2 hj2
  by_cases hgt : i2 > j2
  ·rw [if_pos hgt];exact ⟨b1.1,b1.2,rfl⟩
  ·rw [if_neg hgt]
   obtain ⟨x1,x2,x3⟩ := ih (i2 + 1) (j2 - 1) (swp d i2 j2) (by omega) (by omega)
   exact ⟨by omega,by omega,by rw [x3,size_swp]⟩
theorem swo : SWO ltInt := swo_ltInt
def pdqB (d : Array Int) (a b lim : Nat) (wb wp : Bool) (pv : Nat) : Array Int :=
 if (decide (a > 0) && !ltInt d[a - 1]! d[pv]!) = true then pdq ltInt (partitionEqual ltInt d a b pv).2 (partitionEqual ltInt d a b pv).1 b lim wb wp
 else if (Go.Sort.partition ltInt d a b pv).1 - a < b - (Go.Sort.partition ltInt d a b pv).1 then
  pdq ltInt (pdq ltInt (Go.Sort.partition ltInt d a b pv).2.2 a (Go.Sort.partition ltInt d a b pv).1 lim true true) ((Go.Sort.partition ltInt d a b pv).1 + 1) b lim (decide ((Go.Sort.partition ltInt d a b pv).1 - a ≥ (b - a) / 8)) (Go.Sort.partition ltInt d a b pv).2.1
 else pdq ltInt (pdq ltInt (Go.Sort.partition ltInt d a b pv).2.2 ((Go.Sort.partition ltInt d a b pv).1 + 1) b lim true true) a (Go.Sort.partition ltInt d a b pv).1 lim (decide (b - (Go.Sort.partition ltInt d a b pv).1 ≥ (b - a) / 8)) (Go.Sort.partition ltInt d a b pv).2.1
theorem choose_hint (d : Array Int) (a b : Nat) (h1 : 12 < b - a) (h2 : b - a < 50) : (choosePivot ltInt d a b).2 ≠ .decreasing := by
 rw [choose_small d a b h1 h2]
 dsimp only
 split <;> exact fun h => by cases h
theorem pdq_step (d : Array Int) (a b limit : Nat) (wb wp : Bool) (h1 : 12 < b - a) (h2 : b - a < 50) (h3 : limit ≠ 0) (d1 : Array Int) (hd1 : d1 = if wb = true then d else breakPatterns d a b) (hb : b ≤ d1.size) (lim : Nat) (hlim : lim = if wb = true then limit else limit - 1) :
  pdq ltInt d a b limit wb wp = if (wb && wp && decide ((choosePivot ltInt d1 a b).2 = .increasing) && decide (scanSorted ltInt d1 b (a + 1) = b)) = true then d1 else pdqB d1 a b lim wb wp (choosePivot ltInt d1 a b).1 := by
 have hr := choosePivot_holds ltInt d1 a b (by omega)
 have hpt := partition_holds ltInt swo d1 a b (choosePivot ltInt d1 a b).1 hr.1 hr.2 hb
 have hpe : a + 1 ≤ (partitionEqual ltInt d1 a b (choosePivot ltInt d1 a b).1).1 ∧ (partitionEqual ltInt d1 a b (choosePivot ltInt d1 a b).1).1 ≤ b := by
  have := peq_range a b (a + 1) (b - 1) (swp d1 a (choosePivot ltInt d1 a b).1) (by omega) (by omega)
  unfold partitionEqual
  omega
 rw [pdq,if_neg (by omega),if_neg h3]
 have e1 : (if (!wb) = true then breakPatterns d a b else d) = d1 := by rw [hd1];cases wb <;> rfl
 have e2 : (if (!wb) = true then limit - 1 else limit) = lim := by rw [hlim];cases wb <;> rfl
 simp only [e1,e2,if_neg (choose_hint d1 a b h1 h2),partialIns_small a b d1 h2]
 have e3 : ∀ c : Bool,(if c = true then (d1,decide (scanSorted ltInt d1 b (a + 1) = b)) else (d1,false)) = (d1,c && decide (scanSorted ltInt d1 b (a + 1) = b)) := fun c => by cases c <;> rfl
 simp only [e3]
 unfold pdqB
 simp only [dif_pos (show a < (partitionEqual ltInt d1 a b (choosePivot ltInt d1 a b).1).1 ∧ (partitionEqual ltInt d1 a b (choosePivot ltInt d1 a b).1).1 ≤ b from ⟨hpe.1,hpe.2⟩),dif_pos (show a ≤ (Go.Sort.partition ltInt d1 a b (choosePivot ltInt d1 a b).1).1 ∧ (Go.Sort.partition ltInt d1 a b (choosePivot ltInt d1 a b).1).1 < b from ⟨hpt.1,hpt.2.1⟩)]
def Own (w : World) (base g q len : Nat) (l : List Int) : Prop := l.length = len ∧ w.ownsRow base 22 1 (.slice (some ⟨g,0,none⟩) len q) len (nums .u64 l)
theorem Own.R {w : World} {base g q len : Nat} {l : List Int} (h : Own w base g q len l) : Kd.R (Kd.int .u64) 22 w base (fun _ => True) (.slice (some ⟨g,0,none⟩) len q) l := by
 obtain ⟨h1,h2⟩ := h
 subst h1
 exact R_made h2 (fun _ _ => trivial)
theorem Own.of {w : World} {base g q len : Nat} {l : List Int} {ok : Nat → Prop} (h : Kd.R (Kd.int .u64) 22 w base ok (.slice (some ⟨g,0,none⟩) len q) l) : Own w base g q len l := by
 have h1 := (Kd.R_reads' h).1
 subst h1
 exact ⟨rfl,Kd.own_of_R h⟩
theorem Own.of_own {w : World} {base g q len : Nat} {l : List Int} (h : w.ownsRow base 22 1 (.slice (some ⟨g,0,none⟩) len q) len (nums .u64 l)) : Own w base g q len l := by
 refine ⟨?_,h⟩
 have := h.1
 simpa [nums] using this
def PdqOk (g q len : Nat) (w0 : World) (n : Nat) : Prop := ∀ (l : List Int) (a b limit : Nat) (w : World),b - a ≤ n → a ≤ b → b ≤ len → limit ≤ 62 → Own w w0.heap.size g q len l → RowKit.Below w0.heap.size w0 w →
 Calls Try.prog 102 #[.slice (some ⟨g,0,none⟩) len q,.int .i64 (a : Int),.int .i64 (b : Int),.int .i64 (limit : Int)] w fun e w' =>
  e = .returned (.tuple #[]) ∧ Aside0 (Own w' w0.heap.size g q len (pdq ltInt l.toArray a b limit true true).toList) ∧ Aside0 (RowKit.Below w0.heap.size w0 w')
set_option maxHeartbeats 4000000 in
set_option maxRecDepth 100000 in
theorem pdq_walk (g q len : Nat) (w0 : World) (hlen : len < 50) (n : Nat) (ih : ∀ m,m < n → PdqOk g q len w0 m) : PdqOk g q len w0 n := by
 intro l a b limit w hn hab hb hlim ho hB
 have HIH := Aside0.mk ih
 have HO0 := Aside0.mk ho
 have HB0 := Aside0.mk hB
 obtain ⟨T,hT⟩ : ∃ T,T = pdq ltInt l.toArray a b limit true true := ⟨_,rfl⟩
 rw [← hT]
 have HT := Aside0.mk hT
 clear ho hB ih hT
 go_enter Try.func102,Try.ntmps102
 go_wp2
 go_loopg [1,2,3,8,9,10,11,12,13,14,15,16,17,18] n (fun kq v1 v2 v3 v8 v9 v10 v11 v12 v13 v14 v15 v16 v17 v18 w' => ∃ (a b limit : Nat) (wb wp : Bool) (l : List Int),v1 = .int .i64 (a : Int) ∧ v2 = .int .i64 (b : Int) ∧ v3 = .int .i64 (limit : Int) ∧ v8 = .bool wb ∧ v9 = .bool wp ∧
  Aside0 (b - a ≤ kq ∧ kq ≤ n ∧ a ≤ b ∧ b ≤ len ∧ limit ≤ 62) ∧ Aside0 (T = pdq ltInt l.toArray a b limit wb wp) ∧ Aside0 (Own w' w0.heap.size g q len l) ∧ Aside0 (RowKit.Below w0.heap.size w0 w'))
 case atStart => exact ⟨a,b,limit,true,true,l,rfl,rfl,rfl,rfl,rfl,⟨hn,Nat.le_refl _,hab,hb,hlim⟩,HT,HO0,HB0⟩
 case round =>
  clear HT HO0 HB0 hn hab hb hlim
  obtain ⟨a,b,limit,wb,wp,l,rfl,rfl,rfl,rfl,rfl,HK,HT,HO,HB⟩ := hrel
  obtain ⟨hk1,hk2,hab,hb,hlim⟩ := HK.out
  have hll := HO.out.1
  by_cases h12 : b - a ≤ 12
  ·have q1 : decide ((b : Int) - (a : Int) ≤ 12) = true := decide_eq_true (by omega)
   have hp : pdq ltInt l.toArray a b limit wb wp = insertionSort ltInt l.toArray a b := by rw [pdq,if_pos h12]
   obtain ⟨k,hk⟩ := (ins_ev a b l hab (by omega) (by omega)).rounds
   have HC := Aside0.mk (slices_insertionSortOrdered_uint64.calls k (fun _ => True) _ l (a : Int) (b : Int) _ w0 wr HB.out HO.out.R hk)
   rw [← hp,← HT.out] at HC
   clear HO HB HT hk hp
   go_wp2_with (first|(go_at_call 105;(with_reducible refine HC.out.mono ?_);rintro e w' ⟨rfl,h1,h2,h3⟩;have H1 := Aside0.mk (Own.of h1);have H2 := Aside0.mk h2;clear h1 h2 h3))
   first|go_end0|((try simp only [Exit.inBlock,Exit.then]);refine bodyPost_ret (results_none rfl _ _ _) rfl ?_)
   exact ⟨rfl,H1,H2⟩
  ·by_cases h0 : limit = 0
   ·subst h0
    have q1 : decide ((b : Int) - (a : Int) ≤ 12) = false := decide_eq_false (by omega)
    have hp : pdq ltInt l.toArray a b 0 wb wp = heapSort ltInt l.toArray a b := by rw [pdq,if_neg h12,if_pos rfl]
    obtain ⟨k,hk⟩ := (heap_ev a b l (by omega) (by omega) (by omega)).rounds
    have HC := Aside0.mk (slices_heapSortOrdered_uint64.calls k (fun _ => True) _ l (a : Int) (b : Int) _ w0 wr HB.out HO.out.R hk)
    rw [← hp,← HT.out] at HC
    clear HO HB HT hk hp
    go_wp2_with (first|(go_at_call 106;(with_reducible refine HC.out.mono ?_);rintro e w' ⟨rfl,h1,h2,h3⟩;have H1 := Aside0.mk (Own.of h1);have H2 := Aside0.mk h2;clear h1 h2 h3))
    first|go_end0|((try simp only [Exit.inBlock,Exit.then]);refine bodyPost_ret (results_none rfl _ _ _) rfl ?_)
    exact ⟨rfl,H1,H2⟩
   ·have q1 : decide ((b : Int) - (a : Int) ≤ 12) = false := decide_eq_false (by omega)
    have q2 : ((limit : Int) == 0) = false := beq_eq_false_iff_ne.mpr (by omega)
    have hL : a + (b - a) = b := by omega
    go_upto_if 35 with (fail)
    go_cut [3] (fun v3 wc => ∃ (lim : Nat) (l1 : List Int),v3 = .int .i64 (lim : Int) ∧ Aside0 (lim = (if wb = true then limit else limit - 1) ∧ l1.toArray = (if wb = true then l.toArray else breakPatterns l.toArray a b)) ∧ Aside0 (Own wc w0.heap.size g q len l1) ∧ Aside0 (RowKit.Below w0.heap.size w0 wc))
    case first =>
     cases wb with
     | true =>
      go_wp2
      go_meet
      case rel => exact ⟨limit,l,rfl,⟨rfl,rfl⟩,HO,HB⟩
     | false =>
      have hbw := break_walk l g q a (b - a) w0 wr HB.out (by rw [hll];exact HO.out.2) (by omega) (by omega) (by omega) (by omega)
      rw [hll,hL] at hbw
      have HBW := Aside0.mk hbw
      have hw : IntKind.i64.wrap ((limit : Int) - 1) = ((limit - 1 : Nat) : Int) := by rw [wrapI_id (by omega) (by omega)];omega
      clear hbw HO HB
      go_wp2_with fail
      refine HBW.out.mono ?_
      rintro e w2 ⟨rfl,H1,H2⟩
      have H1' := Aside0.mk (Own.of_own H1.out)
      go_wp2_with fail
      go_meet
      case rel => exact ⟨limit - 1,_,by first|rfl|(congr 1;omega),⟨rfl,rfl⟩,H1',H2⟩
    case rest =>
     clear HO HB
     obtain ⟨lim,l1,rfl,HL,HO,HB⟩ := hcut
     have hl1 := HO.out.1
     have hlim2 : lim ≤ 62 := by rw [HL.out.1];split <;> omega
     have hstep := pdq_step l.toArray a b limit wb wp (by omega) (by omega) h0 l1.toArray HL.out.2 (by rw [List.size_toArray];omega) lim HL.out.1
     rw [← HT.out] at hstep
     have hch := choose_hint l1.toArray a b (by omega) (by omega)
     have hpv := choosePivot_holds ltInt l1.toArray a b (by omega)
     have hpw := pivot_walk w0.heap.size l1 g q a b wc (by rw [hl1];exact HO.out.2) (by omega) (by omega) (by omega) (by omega)
     rw [hl1] at hpw
     obtain ⟨c,hc⟩ : ∃ c,c = choosePivot ltInt l1.toArray a b := ⟨_,rfl⟩
     rw [← hc] at hstep hch hpv hpw
     clear hc
     obtain ⟨pv,h⟩ := c
     dsimp only at hstep hch hpv hpw
     obtain ⟨hv,hhv⟩ : ∃ x,x = hintN h := ⟨_,rfl⟩
     have q3 : (hv == 2) = false := by rw [hhv];cases h <;> first|rfl|exact absurd rfl hch
     have q4 : decide (h = .increasing) = (hv == 1) := by rw [hhv];cases h <;> first|rfl|exact absurd rfl hch
     rw [q4] at hstep
     rw [← hhv] at hpw
     have HS := Aside0.mk hstep
     have HPW := Aside0.mk hpw
     clear hstep hpw hch hhv q4 HT HL
     obtain ⟨hpv1,hpv2⟩ := hpv
     go_upto_region 15 with (first|(go_at_call 108;(with_reducible refine HPW.out.mono ?_);rintro e w2 ⟨rfl,B2⟩;have HO2 := Aside0.mk (show Own w2 w0.heap.size g q len l1 from ⟨HO.out.1,pw_own_below HO.out.2 B2.out⟩);have HB2 := Aside0.mk (below_step HB.out B2.out);clear B2))
     clear HO HB HPW
     go_cut [68] (fun v68 wd => v68 = .bool (wb && wp && (hv == 1)) ∧ Aside0 (Own wd w0.heap.size g q len l1) ∧ Aside0 (RowKit.Below w0.heap.size w0 wd))
     case first =>
      cases wb <;> cases wp
      all_goals (
       go_wp2
       go_meet
       case rel => exact ⟨by first|rfl|simp,HO2,HB2⟩)
     case rest =>
      clear HO2 HB2
      obtain ⟨rfl,HO,HB⟩ := hcut
      obtain ⟨t,ht⟩ : ∃ t,t = (wb && wp && (hv == 1)) := ⟨_,rfl⟩
      have hst := HS.out
      rw [← ht] at hst ⊢
      have HS2 := Aside0.mk hst
      clear hst ht HS q3
      go_upto_if 68 with (fail)
      go_cut [] (fun wd => Aside0 (T = pdqB l1.toArray a b lim wb wp pv) ∧ Aside0 (Own wd w0.heap.size g q len l1) ∧ Aside0 (RowKit.Below w0.heap.size w0 wd))
      case first =>
       cases t with
       | false =>
        have HT2 := Aside0.mk (show T = pdqB l1.toArray a b lim wb wp pv by have := HS2.out;rwa [Bool.false_and,if_neg (by decide)] at this)
        go_wp2
        go_meet
        case rel => exact ⟨HT2,HO,HB⟩
       | true =>
        obtain ⟨k,hk⟩ := (pins_ev a b l1 (by omega) (by omega) (by omega) (by omega)).rounds
        rw [partialIns_small a b l1.toArray (by omega)] at hk
        dsimp only at hk
        have hT2 := HS2.out
        rw [Bool.true_and] at hT2
        obtain ⟨s,hs⟩ : ∃ s,s = decide (scanSorted ltInt l1.toArray b (a + 1) = b) := ⟨_,rfl⟩
        rw [← hs] at hk hT2
        have HC := Aside0.mk (slices_partialInsertionSortOrdered_uint64.calls k (fun _ => True) _ l1 (a : Int) (b : Int) s l1 w0 wc HB.out HO.out.R hk)
        clear hs hk HO HB HS2
        cases s with
        | true =>
         have HT2 := Aside0.mk (show T.toList = l1 by rw [hT2,if_pos rfl])
         clear hT2
         go_wp2_with (first|(go_at_call 110;(with_reducible refine HC.out.mono ?_);rintro e w' ⟨rfl,h1,h2,h3⟩;have H1 := Aside0.mk (Own.of h1);have H2 := Aside0.mk h2;clear h1 h2 h3))
         first|go_end0|((try simp only [Exit.inBlock,Exit.then]);refine bodyPost_ret (results_none rfl _ _ _) rfl ?_)
         rw [HT2.out]
         exact ⟨rfl,H1,H2⟩
        | false =>
         have HT2 := Aside0.mk (show T = pdqB l1.toArray a b lim wb wp pv by rw [hT2,if_neg (by decide)])
         clear hT2
         go_wp2_with (first|(go_at_call 110;(with_reducible refine HC.out.mono ?_);rintro e w' ⟨rfl,h1,h2,h3⟩;have H1 := Aside0.mk (Own.of h1);have H2 := Aside0.mk h2;clear h1 h2 h3))
         go_meet
         case rel => exact ⟨HT2,H1,H2⟩
      case rest =>
       clear HO HB HS2
       obtain ⟨HT,HO,HB⟩ := hcut
       have hsz : l1.toArray.size = len := by rw [List.size_toArray];exact hl1
       obtain ⟨x,hx⟩ : ∃ x,x = ltInt l1.toArray[a - 1]! l1.toArray[pv]! := ⟨_,rfl⟩
       have hTB := HT.out
       unfold pdqB at hTB
       rw [← hx] at hTB
       obtain ⟨z,hz⟩ : ∃ z,z = (decide (a > 0) && !x) := ⟨_,rfl⟩
       rw [← hz] at hTB
       have HTB := Aside0.mk hTB
       clear hTB HT
       go_upto_region 17 with (fail)
       go_cut [87] (fun v87 wd => v87 = .bool z ∧ Aside0 (Own wd w0.heap.size g q len l1) ∧ Aside0 (RowKit.Below w0.heap.size w0 wd))
       case first =>
        clear HTB hsz
        by_cases ha0 : 0 < a
        ·have g1 : decide ((a : Int) > 0) = true := decide_eq_true (by omega)
         have g2 : decide ((0 : Int) < (a : Int)) = true := decide_eq_true (by omega)
         have c1 := (own_at HO.out.2 ((a - 1 : Nat) : Int) (by omega) (by omega)).1
         have c2 := (own_at HO.out.2 (pv : Int) (by omega) (by omega)).1
         rw [Int.toNat_natCast] at c1 c2
         have hq : ltInt (rd l1 ((a - 1 : Nat) : Int)) (rd l1 (pv : Int)) = x := by rw [srd,srd,hx]
         obtain ⟨x1,e1⟩ : ∃ y,rd l1 ((a - 1 : Nat) : Int) = y := ⟨_,rfl⟩
         obtain ⟨x2,e2⟩ : ∃ y,rd l1 (pv : Int) = y := ⟨_,rfl⟩
         rw [e1] at c1 hq
         rw [e2] at c2 hq
         have HQ := Aside0.mk (fun w => less_calls hq w)
         have p1 : ((0 : Int) ≤ (a : Int) - 1) = True := eq_true (by omega)
         have p2 : ((a : Int) - 1 < (len : Int)) = True := eq_true (by omega)
         have p3 : ((0 : Int) ≤ (pv : Int)) = True := eq_true (by omega)
         have p4 : ((pv : Int) < (len : Int)) = True := eq_true (by omega)
         have hzx : z = !x := by rw [hz,decide_eq_true ha0,Bool.true_and]
         have hwr : IntKind.i64.wrap ((a : Int) - 1) = (a : Int) - 1 := wrapI_id (by omega) (by omega)
         have htn : ((a : Int) - 1).toNat = a - 1 := by omega
         have HZX := Aside0.mk hzx
         clear hx hz hzx e1 e2 hq
         go_quiet ((refine Calls.quiet_of (HQ.out _)))
         clear hwr htn
         go_wp2
         go_meet
         case rel => exact ⟨by rw [HZX.out],⟨HO.out.1,pw_own_drewN HO.out.2 _⟩,⟨pw_below_drewN HB.out _⟩⟩
        ·have g1 : decide ((a : Int) > 0) = false := decide_eq_false (by omega)
         have g2 : decide ((0 : Int) < (a : Int)) = false := decide_eq_false (by omega)
         have hzx : z = false := by rw [hz,decide_eq_false ha0,Bool.false_and]
         have HZX := Aside0.mk hzx
         clear hx hz hzx
         go_quiet (fail)
         go_wp2
         go_meet
         case rel => exact ⟨by rw [HZX.out],⟨HO.out.1,pw_own_drewN HO.out.2 _⟩,⟨pw_below_drewN HB.out _⟩⟩
       case rest =>
        clear HO HB hx hz
        obtain ⟨rfl,HO,HB⟩ := hcut
        cases z with
        | true =>
         have hT := HTB.out
         rw [if_pos rfl] at hT
         obtain ⟨k,hk⟩ := (peq_ev a b pv l1 (by omega) hpv1 hpv2 (by omega) (by omega)).rounds
         have hr := peq_range a b (a + 1) (b - 1) (swp l1.toArray a pv) (by omega) (by omega)
         have hr2 : a + 1 ≤ (partitionEqual ltInt l1.toArray a b pv).1 ∧ (partitionEqual ltInt l1.toArray a b pv).1 ≤ b := by
          unfold partitionEqual
          omega
         obtain ⟨r,hr3⟩ : ∃ r,r = partitionEqual ltInt l1.toArray a b pv := ⟨_,rfl⟩
         rw [← hr3] at hT hk hr2
         obtain ⟨mid,d4⟩ := r
         dsimp only at hT hk hr2
         have HC := Aside0.mk (slices_partitionEqualOrdered_uint64.calls k (fun _ => True) _ l1 (a : Int) (b : Int) (pv : Int) (mid : Int) d4.toList w0 wc HB.out HO.out.R hk)
         have HT3 := Aside0.mk (show T = pdq ltInt d4.toList.toArray mid b lim wb wp from hT)
         obtain ⟨m1,m2⟩ := hr2
         have HK2 := Aside0.mk (show b - mid ≤ b - (a + 1) ∧ b - (a + 1) ≤ n ∧ mid ≤ b ∧ b ≤ len ∧ lim ≤ 62 by omega)
         clear hT hk hr hr3 HO HB HTB hsz
         go_wp2_with (first|(go_at_call 112;(with_reducible refine HC.out.mono ?_);rintro e w' ⟨rfl,h1,h2,h3⟩;have H1 := Aside0.mk (Own.of h1);have H2 := Aside0.mk h2;clear h1 h2 h3))
         go_roundg (b - (a + 1))
         case measure => omega
         case rel => exact ⟨mid,b,lim,wb,wp,d4.toList,rfl,rfl,rfl,rfl,rfl,HK2,HT3,H1,H2⟩
        | false =>
         have hT := HTB.out
         rw [if_neg (by decide)] at hT
         obtain ⟨k,hk⟩ := (part_ev a b pv l1 (by omega) hpv1 hpv2 (by omega) (by omega)).rounds
         have hpt := partition_holds ltInt swo l1.toArray a b pv hpv1 hpv2 (by omega)
         have hr2 : a ≤ (Go.Sort.partition ltInt l1.toArray a b pv).1 ∧ (Go.Sort.partition ltInt l1.toArray a b pv).1 < b := ⟨hpt.1,hpt.2.1⟩
         clear hpt
         obtain ⟨r,hr3⟩ : ∃ r,r = Go.Sort.partition ltInt l1.toArray a b pv := ⟨_,rfl⟩
         rw [← hr3] at hT hk hr2
         obtain ⟨mid,ap,d4⟩ := r
         dsimp only at hT hk hr2
         have HC := Aside0.mk (slices_partitionOrdered_uint64.calls k (fun _ => True) _ l1 (a : Int) (b : Int) (pv : Int) (mid : Int) ap d4.toList w0 wc HB.out HO.out.R hk)
         obtain ⟨m1,m2⟩ := hr2
         by_cases hlr : mid - a < b - mid
         ·rw [if_pos hlr] at hT
          have hrec := fun (w : World) (ho : Own w w0.heap.size g q len d4.toList) (hB : RowKit.Below w0.heap.size w0 w) => HIH.out (mid - a) (by omega) d4.toList a mid lim w (Nat.le_refl _) (by omega) (by omega) hlim2 ho hB
          have HRec := Aside0.mk hrec
          have HT3 := Aside0.mk (show T = pdq ltInt (pdq ltInt d4.toList.toArray a mid lim true true).toList.toArray (mid + 1) b lim (decide (mid - a ≥ (b - a) / 8)) ap from hT)
          have HK2 := Aside0.mk (show b - (mid + 1) ≤ b - (a + 1) ∧ b - (a + 1) ≤ n ∧ mid + 1 ≤ b ∧ b ≤ len ∧ lim ≤ 62 by omega)
          have q5 : decide ((mid : Int) - (a : Int) < (b : Int) - (mid : Int)) = true := decide_eq_true (by omega)
          clear hrec hT hk hr3 HO HB HTB hsz
          go_wp2_with (first
           | (go_at_call 113;(with_reducible refine HC.out.mono ?_);rintro e w' ⟨rfl,h1,h2,h3⟩;have H1 := Aside0.mk (Own.of h1);have H2 := Aside0.mk h2;clear h1 h2 h3)
           | (go_at_call 102;(with_reducible refine (HRec.out _ H1.out H2.out).mono ?_);rintro e w'' ⟨rfl,H3,H4⟩))
          go_roundg (b - (a + 1))
          case measure => omega
          case rel => exact ⟨mid + 1,b,lim,decide (mid - a ≥ (b - a) / 8),ap,_,by go_num,rfl,rfl,by congr 1;exact decide_eq_decide.mpr (by omega),rfl,HK2,HT3,H3,H4⟩
         ·rw [if_neg hlr] at hT
          have hrec := fun (w : World) (ho : Own w w0.heap.size g q len d4.toList) (hB : RowKit.Below w0.heap.size w0 w) => HIH.out (b - (mid + 1)) (by omega) d4.toList (mid + 1) b lim w (Nat.le_refl _) (by omega) (by omega) hlim2 ho hB
          have HRec := Aside0.mk hrec
          have HT3 := Aside0.mk (show T = pdq ltInt (pdq ltInt d4.toList.toArray (mid + 1) b lim true true).toList.toArray a mid lim (decide (b - mid ≥ (b - a) / 8)) ap from hT)
          have HK2 := Aside0.mk (show mid - a ≤ b - (a + 1) ∧ b - (a + 1) ≤ n ∧ a ≤ mid ∧ mid ≤ len ∧ lim ≤ 62 by omega)
          have q5 : decide ((mid : Int) - (a : Int) < (b : Int) - (mid : Int)) = false := decide_eq_false (by omega)
          have hmw : (mid : Int) + 1 = ((mid + 1 : Nat) : Int) := by omega
          have HMW := Aside0.mk hmw
          clear hmw hrec hT hk hr3 HO HB HTB hsz
          go_wp2_with (first
           | (go_at_call 113;(with_reducible refine HC.out.mono ?_);rintro e w' ⟨rfl,h1,h2,h3⟩;have H1 := Aside0.mk (Own.of h1);have H2 := Aside0.mk h2;clear h1 h2 h3)
           | (go_at_call 102;rw [HMW.out];(with_reducible refine (HRec.out _ H1.out H2.out).mono ?_);rintro e w'' ⟨rfl,H3,H4⟩))
          go_roundg (b - (a + 1))
          case measure => omega
          case rel => exact ⟨a,mid,lim,decide (b - mid ≥ (b - a) / 8),ap,_,rfl,rfl,rfl,by congr 1;exact decide_eq_decide.mpr (by omega),rfl,HK2,HT3,H3,H4⟩
theorem pdq_all (g q len : Nat) (w0 : World) (hlen : len < 50) : ∀ n,PdqOk g q len w0 n := fun n => Nat.strongRecOn n fun n ih => pdq_walk g q len w0 hlen n ih
end Go.Proofs.Ytmdoaijkaaaglaa.Srt
end
section
namespace Go.Proofs.Ytmdoaijkaaaglaa.Hw
open Go.RowKit Go.Proofs.Ytmdoaijkaaaglaa.Pr Go.Proofs.YtmdoaijkaaaglaaW.PrintWords Go.Proofs.YtmdoaijkaaaglaaW.PrintLast Go.Proofs.YtmdoaijkaaaglaaW.PrintMore Go.Proofs.Ytmdoaijkaaaglaa.E
theorem less_eq (a b : Int) : cmp_Less_uint64.f a b = some (decide (a < b)) := by
 unfold cmp_Less_uint64.f cmp_isNaN_uint64.f
 simp
theorem w64 {n : Int} (h0 : -9223372036854775808 ≤ n) (h1 : n < 9223372036854775808) : wrap64 n = n := by unfold wrap64;omega
theorem rd_nat (l : List Int) (i : Nat) : rd l (i : Int) = l.getD i 0 := by unfold rd;rw [Int.toNat_natCast]
theorem getD_in (l : List Int) (i : Nat) (h : i < l.length) : l.getD i 0 = l[i] := by rw [List.getD_eq_getElem?_getD,List.getElem?_eq_getElem h];rfl
theorem getD_set (l : List Int) (i j : Nat) (v : Int) (h : j < l.length) : (l.set i v).getD j 0 = if i = j then v else l.getD j 0 := by
 rw [getD_in _ _ (by simpa using h),List.getElem_set,getD_in _ _ h]
def Ord (l : List Int) (i j : Nat) : Prop := ∀ p q,p < q → q ≤ i → q ≠ j → l.getD p 0 ≤ l.getD q 0
theorem ins_ends : ∀ (m i j : Nat) (x : List Int),x.length ≤ 1099511627776 → i < x.length → j ≤ i → Ord x i j → (x.length - i) * (x.length + 2) + j < m →
  ∃ k r,slices_insertionSortOrdered_uint64.l1 k x 0 (x.length : Int) (i : Int) (j : Int) = some r ∧ r.Perm x ∧ (∀ p q,p < q → q < r.length → r.getD p 0 ≤ r.getD q 0) := by
 intro m
 induction m with
 | zero => intro i j x _ _ _ _ h;omega
 | succ m ih =>
  intro i j x hx hi hj ho hm
  have next : (∀ p q,p < q → q ≤ i → x.getD p 0 ≤ x.getD q 0) → ∃ k r,slices_insertionSortOrdered_uint64.l0 k x 0 (x.length : Int) (wrap64 ((i : Int) + 1)) = some r ∧ r.Perm x ∧ (∀ p q,p < q → q < r.length → r.getD p 0 ≤ r.getD q 0) := by
   intro hs
   rw [w64 (by omega) (by omega)]
   by_cases hlt : i + 1 < x.length
   ·obtain ⟨k,r,h1,h2,h3⟩ := ih (i + 1) (i + 1) x hx hlt (Nat.le_refl _) (fun p q hpq hq hne => hs p q hpq (by omega)) (by
     have : (x.length - (i + 1)) * (x.length + 2) + (x.length + 2) = (x.length - i) * (x.length + 2) := by
      rw [← Nat.succ_mul];congr 1;omega
     omega)
    refine ⟨k + 1,r,?_,h2,h3⟩
    simp only [slices_insertionSortOrdered_uint64.l0]
    rw [if_pos (by omega),show (i : Int) + 1 = ((i + 1 : Nat) : Int) from by omega]
    exact h1
   ·refine ⟨1,x,?_,List.Perm.refl _,fun p q hpq hq => hs p q hpq (by omega)⟩
    simp only [slices_insertionSortOrdered_uint64.l0]
    rw [if_neg (by omega)]
  by_cases hj0 : j = 0
  ·subst hj0
   obtain ⟨k,r,h1,h2,h3⟩ := next (fun p q hpq hq => ho p q hpq hq (by omega))
   refine ⟨k + 1,r,?_,h2,h3⟩
   simp only [slices_insertionSortOrdered_uint64.l1]
   rw [if_neg (by omega)]
   exact h1
  ·obtain ⟨t,rfl⟩ : ∃ t,j = t + 1 := ⟨j - 1,by omega⟩
   have e1 : wrap64 (((t + 1 : Nat) : Int) - 1) = (t : Int) := by rw [w64 (by omega) (by omega)];omega
   by_cases hlt : x.getD (t + 1) 0 < x.getD t 0
   ·have hl2 : ((x.set (t + 1) (x.getD t 0)).set t (x.getD (t + 1) 0)).length = x.length := by simp
    have hg : ∀ p,p < x.length → ((x.set (t + 1) (x.getD t 0)).set t (x.getD (t + 1) 0)).getD p 0 = if p = t then x.getD (t + 1) 0 else if p = t + 1 then x.getD t 0 else x.getD p 0 := by
     intro p hp
     rw [getD_set _ _ _ _ (by simpa using hp),getD_set _ _ _ _ hp]
     by_cases a : t = p
     ·subst a;rw [if_pos rfl,if_pos rfl]
     ·have a' : ¬ p = t := fun h => a h.symm
      rw [if_neg a,if_neg a']
      by_cases b : t + 1 = p
      ·subst b;rw [if_pos rfl]
      ·have b' : ¬ p = t + 1 := fun h => b h.symm
       rw [if_neg b,if_neg b']
    obtain ⟨k,r,h1,h2,h3⟩ := ih i t ((x.set (t + 1) (x.getD t 0)).set t (x.getD (t + 1) 0)) (by rw [hl2];exact hx) (by rw [hl2];exact hi) (by omega) (by
     intro p q hpq hq hne
     rw [hg p (by omega),hg q (by omega)]
     have o1 := ho t (t + 1)
     by_cases a : p = t
     ·rw [if_pos a]
      rw [if_neg hne]
      by_cases b : q = t + 1
      ·rw [if_pos b];omega
      ·rw [if_neg b];exact ho (t + 1) q (by omega) hq b
     ·rw [if_neg a,if_neg hne]
      by_cases a2 : p = t + 1
      ·rw [if_pos a2,if_neg (by omega)];exact ho t q (by omega) hq (by omega)
      ·rw [if_neg a2]
       by_cases b : q = t + 1
       ·rw [if_pos b];exact ho p t (by omega) (by omega) (by omega)
       ·rw [if_neg b];exact ho p q hpq hq b) (by rw [hl2];omega)
    rw [hl2] at h1
    refine ⟨k + 1,r,?_,h2.trans ?_,h3⟩
    ·simp only [slices_insertionSortOrdered_uint64.l1]
     rw [e1,if_pos (by omega),if_pos (by omega),if_pos (by omega),if_pos (by omega),if_pos (by omega),less_eq,rd_nat,rd_nat]
     simp only [Option.bind_some]
     rw [if_pos (by simpa using hlt),Int.toNat_natCast,Int.toNat_natCast]
     exact h1
    ·rw [getD_in _ _ (by omega : t < x.length),getD_in _ _ (by omega : t + 1 < x.length)]
     exact List.set_set_perm (by omega) (by omega)
   ·obtain ⟨k,r,h1,h2,h3⟩ := next (fun p q hpq hq => by
     by_cases a : q = t + 1
     ·subst a
      by_cases b : p = t
      ·subst b;omega
      ·have := ho p t (by omega) (by omega) (by omega);omega
     ·exact ho p q hpq hq a)
    refine ⟨k + 1,r,?_,h2,h3⟩
    simp only [slices_insertionSortOrdered_uint64.l1]
    rw [e1,if_pos (by omega),if_pos (by omega),if_pos (by omega),if_pos (by omega),if_pos (by omega),less_eq,rd_nat,rd_nat]
    simp only [Option.bind_some]
    rw [if_neg (by simpa using hlt)]
    exact h1
theorem ins_sorts (x : List Int) (hx : x.length ≤ 1099511627776) : ∃ k r,slices_insertionSortOrdered_uint64.f k x 0 (x.length : Int) = some r ∧ r.Perm x ∧ (∀ p q,p < q → q < r.length → r.getD p 0 ≤ r.getD q 0) := by
 unfold slices_insertionSortOrdered_uint64.f
 rw [w64 (by omega) (by omega)]
 by_cases h : 1 < x.length
 ·obtain ⟨k,r,h1,h2,h3⟩ := ins_ends _ 1 1 x hx h (Nat.le_refl _) (fun p q hpq hq hne => by omega) (Nat.lt_succ_self _)
  refine ⟨k + 1,r,?_,h2,h3⟩
  simp only [slices_insertionSortOrdered_uint64.l0]
  rw [if_pos (by omega)]
  exact h1
 ·refine ⟨1,x,?_,List.Perm.refl _,fun p q hpq hq => by omega⟩
  simp only [slices_insertionSortOrdered_uint64.l0]
  rw [if_neg (by omega)]
theorem diff_iff {r : List Int} (hs : ∀ p q,p < q → q < r.length → r.getD p 0 ≤ r.getD q 0) : Diff r r.length ↔ r.Nodup := by
 constructor
 ·intro h
  rw [List.nodup_iff_pairwise_ne,List.pairwise_iff_getElem]
  intro i j hi hj hij
  have h1 := h i (by omega)
  rw [show (i : Int) + 1 = ((i + 1 : Nat) : Int) from by omega,rd_nat,rd_nat] at h1
  have h2 := hs i (i + 1) (by omega) (by omega)
  rw [← getD_in _ _ hi,← getD_in _ _ hj]
  by_cases e : j = i + 1
  ·subst e;omega
  ·have := hs (i + 1) j (by omega) hj;omega
 ·intro h i hi
  rw [List.nodup_iff_pairwise_ne,List.pairwise_iff_getElem] at h
  rw [show (i : Int) + 1 = ((i + 1 : Nat) : Int) from by omega,rd_nat,rd_nat,getD_in _ _ hi,getD_in _ _ (by omega : i < r.length)]
  exact fun e => h i (i + 1) (by omega) hi (by omega) e.symm
set_option maxHeartbeats 1000000 in
set_option maxRecDepth 100000 in
theorem unlike_calls (A : Option Addr) (c : Nat) (l : List Int) (w : World) (hr : Kd.C (Kd.int .u64) w A l.length l) (hc : l.length ≤ c) (hl : l.length ≤ 12) :
  Calls Try.prog 59 #[.slice A l.length c] w fun e w' => e = .returned (.bool (decide l.Nodup)) ∧ Below w.heap.size w w' := by
 obtain ⟨k,r,h1,h2,h3⟩ := ins_sorts l (by omega)
 have hlen : bits_Len.f 3 (l.length : Int) = some (([0,1,2,2,3,3,3,3,4,4,4,4,4] : List Int).getD l.length 0) := by
  have h : l.length = 0 ∨ l.length = 1 ∨ l.length = 2 ∨ l.length = 3 ∨ l.length = 4 ∨ l.length = 5 ∨ l.length = 6 ∨ l.length = 7 ∨ l.length = 8 ∨ l.length = 9 ∨ l.length = 10 ∨ l.length = 11 ∨ l.length = 12 := by omega
  rcases h with h|h|h|h|h|h|h|h|h|h|h|h|h <;> rw [h] <;> exact (by first|rfl|decide +kernel)
 have hrl : r.length = l.length := h2.length_eq
 have HD := Aside0.mk ((diff_iff h3).trans h2.nodup_iff)
 have HR := Aside0.mk hrl
 have HL := Aside0.mk hlen
 have H1 := Aside0.mk h1
 have hcl := Aside0.mk (clone_u64 A c l w hr hc (by omega))
 clear h1 h2 h3 hr hrl hlen
 obtain ⟨b,hb⟩ : ∃ b : Bool,b = decide l.Nodup := ⟨_,rfl⟩
 rw [← hb]
 have HBb := Aside0.mk hb
 clear hb
 go_enter Try.func59,Try.ntmps59
 go_wp2_with (first
  | (go_at_call 76;(with_reducible refine hcl.out.mono ?_);rintro e w1 ⟨v0,rfl,ho,hb1⟩;obtain ⟨A1,c1,rfl⟩ := Kd.R_slice ho;have hso := Aside0.mk (sort_small k 3 (fun _ => True) A1 c1 l r _ hl w w1 hb1 ho H1.out HL.out);clear ho hb1)
  | (go_at_call 89;(with_reducible refine hso.out.mono ?_);rintro e w2 ⟨rfl,ho,hb2⟩;rw [← HR.out] at ho;have hco := Aside0.mk (compact_u64 A1 c1 r (by rw [HR.out];omega) w w2 hb2 ho);rw [HR.out] at hco;clear ho hb2)
  | (go_at_call 90;(with_reducible refine hco.out.mono ?_);rintro e w3 ⟨hex,hb3⟩;obtain ⟨⟨A3,m,c3,rfl,hm⟩⟩ := hex;have HM := Aside0.mk hm;have HB3 := Aside0.mk hb3;clear hm hb3))
 go_ret
 refine ⟨?_,HB3.out⟩
 have e : ((m : Int) == (l.length : Int)) = b := by
  rw [HBb.out,Bool.eq_iff_iff,beq_iff_eq,decide_eq_true_iff,← HD.out,HR.out,← HM.out]
  omega
 rw [e]
 rfl
end Go.Proofs.Ytmdoaijkaaaglaa.Hw
end
section
namespace Go.Proofs.Ytmdoaijkaaaglaa.Hw
open Go.RowKit Go.Proofs.Ytmdoaijkaaaglaa.Pr Go.Proofs.YtmdoaijkaaaglaaW.PrintWords Go.Proofs.YtmdoaijkaaaglaaW.PrintLast Go.Proofs.YtmdoaijkaaaglaaW.PrintMore Go.Sort Go.Proofs.Ytmdoaijkaaaglaa.Srt
theorem extract_all (l : List Int) (n : Nat) (h : n = l.length) : (l.toArray.extract 0 n).toList = l := by
 subst h
 simp
theorem pdq_perm (l : List Int) : (pdq ltInt l.toArray 0 l.length (bitsLen l.length) true true).toList.Perm l ∧
  (∀ p q,p < q → q < (pdq ltInt l.toArray 0 l.length (bitsLen l.length) true true).toList.length → (pdq ltInt l.toArray 0 l.length (bitsLen l.length) true true).toList.getD p 0 ≤ (pdq ltInt l.toArray 0 l.length (bitsLen l.length) true true).toList.getD q 0) := by
 obtain ⟨⟨h1,h2,h3⟩,h4⟩ := pdq_sorts ltInt swo l.toArray 0 l.length (bitsLen l.length) true true (Nat.zero_le _) (by rw [List.size_toArray];exact Nat.le_refl _) (Or.inl rfl)
 obtain ⟨T,hT⟩ : ∃ T,T = pdq ltInt l.toArray 0 l.length (bitsLen l.length) true true := ⟨_,rfl⟩
 rw [← hT] at h1 h2 h3 h4 ⊢
 clear hT
 obtain ⟨t⟩ := T
 rw [List.size_toArray,List.size_toArray] at h1
 rw [extract_all l _ rfl,extract_all t _ h1.symm] at h3
 refine ⟨h3,fun p q hpq hq => ?_⟩
 have hq' : q < t.length := hq
 have := h4 p q (Nat.zero_le _) hpq (by omega)
 rw [← srd,← srd,rd_nat,rd_nat] at this
 exact Int.not_lt.mp (fun hlt => by rw [show ltInt (t.getD q 0) (t.getD p 0) = decide (t.getD q 0 < t.getD p 0) from rfl,decide_eq_true hlt] at this;exact absurd this (by decide))
set_option maxHeartbeats 1000000 in
set_option maxRecDepth 100000 in
theorem sort_big (A : Option Addr) (c : Nat) (l : List Int) (hl : l.length < 50) (h0 : 0 < l.length) (w0 w : World) (hB : RowKit.Below w0.heap.size w0 w) (ho : Kd.R (Kd.int .u64) 22 w w0.heap.size (fun _ => True) (.slice A l.length c) l) :
  Calls Try.prog 89 #[.slice A l.length c] w fun e w' => e = .returned (.tuple #[]) ∧ Kd.R (Kd.int .u64) 22 w' w0.heap.size (fun _ => True) (.slice A l.length c) (pdq ltInt l.toArray 0 l.length (bitsLen l.length) true true).toList ∧ RowKit.Below w0.heap.size w0 w' := by
 obtain ⟨g,q,hv,hb0,how⟩ := R_open ho h0
 cases hv
 have HO := Aside0.mk (show Own w w0.heap.size g c l.length l from ⟨rfl,how⟩)
 have HB := Aside0.mk hB
 have HL := Aside0.mk (len_tab l.length hl)
 have hb62 : bitsLen l.length ≤ 62 := by
  have : ∀ n,n < 50 → bitsLen n ≤ 62 := by decide +kernel
  exact this _ hl
 clear ho how hB
 go_enter Try.func89,Try.ntmps89
 go_wp2_with (first
  | (go_at_call 103;(refine (bits_Len.calls 3 _ _ _ HL.out).mono ?_);rintro e w' ⟨rfl,⟨nd,rfl⟩⟩;have hq := pdq_all g c l.length w0 hl l.length l 0 l.length (bitsLen l.length) (w.drewN nd) (by omega) (Nat.zero_le _) (Nat.le_refl _) hb62 ⟨rfl,pw_own_drewN HO.out.2 nd⟩ (pw_below_drewN HB.out nd);rw [show ((0 : Nat) : Int) = 0 from rfl] at hq;have hc := Aside0.mk hq;clear hq)
  | (go_at_call 102;(with_reducible refine hc.out.mono ?_);rintro e w' ⟨rfl,H1,H2⟩))
 first|go_end0|((try simp only [Exit.inBlock,Exit.then]);refine bodyPost_ret (results_none rfl _ _ _) rfl ?_)
 exact ⟨rfl,H1.out.R,H2.out⟩
set_option maxHeartbeats 1000000 in
set_option maxRecDepth 100000 in
theorem unlike_big (A : Option Addr) (c : Nat) (l : List Int) (w : World) (hr : Kd.C (Kd.int .u64) w A l.length l) (hc : l.length ≤ c) (hl : l.length ≤ 49) :
  Calls Try.prog 59 #[.slice A l.length c] w fun e w' => e = .returned (.bool (decide l.Nodup)) ∧ RowKit.Below w.heap.size w w' := by
 by_cases h12 : l.length ≤ 12
 ·exact unlike_calls A c l w hr hc h12
 obtain ⟨h2,h3⟩ := pdq_perm l
 obtain ⟨r,hr0⟩ : ∃ r,r = (pdq ltInt l.toArray 0 l.length (bitsLen l.length) true true).toList := ⟨_,rfl⟩
 have hso0 := fun A1 c1 w1 hB ho => sort_big A1 c1 l (by omega) (by omega) w w1 hB ho
 rw [← hr0] at h2 h3 hso0
 clear hr0
 have hrl : r.length = l.length := h2.length_eq
 have HS := Aside0.mk hso0
 have HD := Aside0.mk ((diff_iff h3).trans h2.nodup_iff)
 have HR := Aside0.mk hrl
 have hcl := Aside0.mk (clone_u64 A c l w hr hc (by omega))
 clear h2 h3 hr hrl hso0
 obtain ⟨b,hb⟩ : ∃ b : Bool,b = decide l.Nodup := ⟨_,rfl⟩
 rw [← hb]
 have HBb := Aside0.mk hb
 clear hb
 go_enter Try.func59,Try.ntmps59
 go_wp2_with (first
  | (go_at_call 76;(with_reducible refine hcl.out.mono ?_);rintro e w1 ⟨v0,rfl,ho,hb1⟩;obtain ⟨A1,c1,rfl⟩ := Kd.R_slice ho;have hso := Aside0.mk (HS.out A1 c1 w1 hb1 ho);clear ho hb1)
  | (go_at_call 89;(with_reducible refine hso.out.mono ?_);rintro e w2 ⟨rfl,ho,hb2⟩;rw [← HR.out] at ho;have hco := Aside0.mk (compact_u64 A1 c1 r (by rw [HR.out];omega) w w2 hb2 ho);rw [HR.out] at hco;clear ho hb2)
  | (go_at_call 90;(with_reducible refine hco.out.mono ?_);rintro e w3 ⟨hex,hb3⟩;obtain ⟨⟨A3,m,c3,rfl,hm⟩⟩ := hex;have HM := Aside0.mk hm;have HB3 := Aside0.mk hb3;clear hm hb3))
 go_ret
 refine ⟨?_,HB3.out⟩
 have e : ((m : Int) == (l.length : Int)) = b := by
  rw [HBb.out,Bool.eq_iff_iff,beq_iff_eq,decide_eq_true_iff,← HD.out,HR.out,← HM.out]
  omega
 rw [e]
 rfl
end Go.Proofs.Ytmdoaijkaaaglaa.Hw
end
section
namespace Go.Proofs.Ytmdoaijkaaaglaa.Hw
open Go.RowKit Go.Proofs.Ytmdoaijkaaaglaa.Pr Go.Proofs.YtmdoaijkaaaglaaW.PrintWords Go.Proofs.YtmdoaijkaaaglaaW.PrintLast Go.Proofs.YtmdoaijkaaaglaaW.PrintMore Go.Proofs.Ytmdoaijkaaaglaa.E
theorem rd_res' {p : Int} {l : List Int} (hl : ∀ x ∈ l,Res p x) (i : Nat) (hi : i < l.length) : Res p (rd l i) := by
 have e : rd l i = l[i] := by unfold rd;rw [Int.toNat_natCast,List.getD_eq_getElem?_getD,List.getElem?_eq_getElem hi];rfl
 rw [e];exact hl _ (List.getElem_mem _)
theorem mul_ne' {p : Int} (hp : Supp p) {a b : Int} (ha : Res p a) (h0 : a ≠ 0) (hb : Res p b) (h1 : b ≠ 0) : a * b % p ≠ 0 := by
 intro h
 have e := inv_spec hp ha h0
 have e2 : invp p a * (a * b) % p = b := by
  rw [← Int.mul_assoc,Int.mul_comm (invp p a),mulm (a' := 1) (b' := b) (by rw [e];have := hp.bd;exact (Int.emod_eq_of_lt (by omega) (by omega)).symm) rfl,Int.one_mul,hb.eq]
 rw [mulm (a := invp p a) (b := a * b) (b' := 0) rfl (by rw [h];simp),Int.mul_zero,Int.zero_emod] at e2
 exact h1 e2.symm
theorem sub_ne' {p : Int} (hp : Supp p) {a b : Int} (ha : Res p a) (hb : Res p b) (h : a ≠ b) : (a - b) % p ≠ 0 := by
 intro h0
 have h2 := Int.emod_emod_of_dvd
 have hd : p ∣ a - b := Int.dvd_of_emod_eq_zero h0
 obtain ⟨k,hk⟩ := hd
 obtain ⟨a0,a1⟩ := ha
 obtain ⟨b0,b1⟩ := hb
 have hk0 : k = 0 := by
  rcases Int.lt_trichotomy k 0 with h3|h3|h3
  ·have : p * k ≤ p * (-1) := Int.mul_le_mul_of_nonneg_left (by omega) (by omega)
   omega
  ·exact h3
  ·have : p * 1 ≤ p * k := Int.mul_le_mul_of_nonneg_left (by omega) (by omega)
   omega
 subst hk0
 simp at hk
 omega
def Box (w : World) (b : Nat) (x : Int) : Prop := w.heap[b]? = some (.cells #[.int .u64 x] 22 (0,0))
theorem Box.cell {w : World} {b : Nat} {x : Int} (h : Box w b x) : w.cell? ⟨b,0,none⟩ = some (.int .u64 x) := blk_cell h 0
theorem Box.frozen {w : World} {b : Nat} {x : Int} (h : Box w b x) : w.frozen? ⟨b,0,none⟩ = false := blk_frozen h 0
theorem Box.drewN {w : World} {b : Nat} {x : Int} (h : Box w b x) (n : Nat) : Box (w.drewN n) b x := h
theorem Box.far {w : World} {b : Nat} {x : Int} (h : Box w b x) {g : Nat} (hne : b ≠ g) (v : Value) : Box (w.setCell ⟨g,0,none⟩ v) b x := blk_far (p := ⟨g,0,none⟩) h hne v
theorem Box.put {w : World} {b : Nat} {x : Int} (h : Box w b x) (y : Int) : Box (w.setCell ⟨b,0,none⟩ (.int .u64 y)) b y := blk_put h 0 _ rfl
set_option maxHeartbeats 1000000 in
theorem lagc_calls {p : Int} (hp : Supp p) {n a d x o : Int} (hn : Res p n) (ha : Res p a) (hd : Res p d) (hx : Res p x) (ho : Res p o) (bp bn ba bd bx : Nat) (w : World)
  (hbp : Box w bp p) (hbn : Box w bn n) (hba : Box w ba a) (hbd : Box w bd d) (hbx : Box w bx x) (n1 : bp ≠ bn) (n2 : bp ≠ bd) (n3 : ba ≠ bn) (n5 : bx ≠ bn) (n7 : bn ≠ bd) :
  Calls Try.prog 61 #[.int .u64 o,.pointer (some ⟨bp,0,none⟩),.pointer (some ⟨bn,0,none⟩),.pointer (some ⟨ba,0,none⟩),.pointer (some ⟨bd,0,none⟩),.pointer (some ⟨bx,0,none⟩)] w
   fun e w' => e = .returned (.tuple #[]) ∧ ∃ i j,w' = (((w.drewN i).setCell ⟨bn,0,none⟩ (.int .u64 (n * ((a - o) % p) % p))).drewN j).setCell ⟨bd,0,none⟩ (.int .u64 (d * ((x - o) % p) % p)) := by
 obtain ⟨k1,hk1⟩ := (sub_ev hp ha ho).rounds
 obtain ⟨k2,hk2⟩ := (mul_ev hp hn (Res.mod hp (a - o))).rounds
 obtain ⟨k3,hk3⟩ := (sub_ev hp hx ho).rounds
 obtain ⟨k4,hk4⟩ := (mul_ev hp hd (Res.mod hp (x - o))).rounds
 have HK1 := Aside0.mk hk1
 have HK2 := Aside0.mk hk2
 have HK3 := Aside0.mk hk3
 have HK4 := Aside0.mk hk4
 have c1 := hbp.cell
 have c2 := hbn.cell
 have c3 := hba.cell
 have f2 := hbn.frozen
 clear hk1 hk2 hk3 hk4
 go_enter Try.func61,Try.ntmps61
 go_wp2
 refine wp_region_quiet_tail_drawn 7 (by kernel_rfl) (by kernel_rfl) ?_
 simp only [List.take_succ_cons,List.take_zero,List.drop_succ_cons,List.drop_zero]
 repeat (quiet_step (first|(go_at_call 44;refine Calls.quiet_of ((field_Sub.calls k1 _ _ _ ((a - o) % p) _ HK1.out).mono fun e w' h => ⟨h.1,h.2.out⟩))|(go_at_call 27;refine Calls.quiet_of ((field_Mul.calls k2 _ _ _ (n * ((a - o) % p) % p) _ HK2.out).mono fun e w' h => ⟨h.1,h.2.out⟩))))
 refine wpQuiet_nil ?_
 rintro _ ⟨nq,rfl⟩
 go_wp2
 have hW : ∃ W,W = (w.drewN nq).setCell ⟨bn,0,none⟩ (.int .u64 (n * ((a - o) % p) % p)) := ⟨_,rfl⟩
 obtain ⟨W,hW⟩ := hW
 rw [← hW]
 have d1 : W.cell? ⟨bp,0,none⟩ = some (.int .u64 p) := by rw [hW];exact ((hbp.drewN nq).far n1 _).cell
 have d4 : W.cell? ⟨bd,0,none⟩ = some (.int .u64 d) := by rw [hW];exact ((hbd.drewN nq).far (Ne.symm n7) _).cell
 have d5 : W.cell? ⟨bx,0,none⟩ = some (.int .u64 x) := by rw [hW];exact ((hbx.drewN nq).far n5 _).cell
 have g4 : W.frozen? ⟨bd,0,none⟩ = false := by rw [hW];exact ((hbd.drewN nq).far (Ne.symm n7) _).frozen
 have HW := Aside0.mk hW
 clear hW c1 c2 c3 f2
 refine wp_region_quiet_tail_drawn 7 (by kernel_rfl) (by kernel_rfl) ?_
 simp only [List.take_succ_cons,List.take_zero,List.drop_succ_cons,List.drop_zero]
 repeat (quiet_step (first|(go_at_call 44;refine Calls.quiet_of ((field_Sub.calls k3 _ _ _ ((x - o) % p) _ HK3.out).mono fun e w' h => ⟨h.1,h.2.out⟩))|(go_at_call 27;refine Calls.quiet_of ((field_Mul.calls k4 _ _ _ (d * ((x - o) % p) % p) _ HK4.out).mono fun e w' h => ⟨h.1,h.2.out⟩))))
 refine wpQuiet_nil ?_
 rintro _ ⟨nr,rfl⟩
 go_wp2
 go_end0
 rw [HW.out]
 exact ⟨rfl,nq,nr,rfl⟩
def othersN (xs : List Int) (but : Nat) : Nat → List Int
 | 0 => []
 | n + 1 => if n = but then othersN xs but n else othersN xs but n ++ [rd xs n]
set_option maxHeartbeats 1000000 in
theorem others_lag {σ : Type} (I : σ → World → Prop) (step : σ → Int → σ) (bp bn ba bd bx : Nat) (A : Option Addr) (c : Nat) (xs : List Int) (but : Nat) (hb : but < 1099511627776) (hl : xs.length ≤ 1099511627776)
  (hread : ∀ s w,I s w → Kd.C (Kd.int .u64) w A xs.length xs)
  (hcall : ∀ s w i,i < xs.length → i ≠ but → I s w → Calls Try.prog 61 #[.int .u64 (rd xs i),.pointer (some ⟨bp,0,none⟩),.pointer (some ⟨bn,0,none⟩),.pointer (some ⟨ba,0,none⟩),.pointer (some ⟨bd,0,none⟩),.pointer (some ⟨bx,0,none⟩)] w fun e w' => e = .returned (.tuple #[]) ∧ Aside0 (I (step s (rd xs i)) w'))
  (s : σ) (w : World) (hI : I s w) :
  Calls Try.prog 60 #[.slice A xs.length c,.int .i64 (but : Int),.func (.func 61) #[] #[.pointer (some ⟨bp,0,none⟩),.pointer (some ⟨bn,0,none⟩),.pointer (some ⟨ba,0,none⟩),.pointer (some ⟨bd,0,none⟩),.pointer (some ⟨bx,0,none⟩)]] w
   fun e w' => e = .returned (.tuple #[]) ∧ Aside0 (I ((othersN xs but xs.length).foldl step s) w') := by
 have HI := Aside0.mk hI
 have HR := Aside0.mk hread
 have HC := Aside0.mk hcall
 clear hI hread hcall
 go_enter Try.func60,Try.ntmps60
 go_wp2
 go_loopg [10] xs.length (fun kq v10 w' => ∃ (n : Nat),v10 = .int .i64 n ∧ Aside0 (kq + n = xs.length) ∧ Aside0 (I ((othersN xs but n).foldl step s) w'))
 case atStart => exact ⟨0,rfl,⟨rfl⟩,HI⟩
 case round =>
  obtain ⟨n,rfl,HK,HS⟩ := hrel
  clear HI
  by_cases hlt : n < xs.length
  ·have p1 : ((0 : Int) ≤ (n : Int)) = True := eq_true (by omega)
   have q1 : ((n : Int) < (xs.length : Int)) = True := eq_true (by omega)
   obtain ⟨ad,e1,hx⟩ := Kd.at_int (HR.out _ _ HS.out) (n : Int) (by omega) (by omega)
   cases e1
   rw [Int.toNat_natCast] at hx
   by_cases hnb : n = but
   ·have t1 : ((n : Int) != (but : Int)) = false := by rw [hnb];simp
    have HNB := Aside0.mk hnb
    clear hnb
    go_wp2
    go_roundg (xs.length - (n + 1))
    case measure => have := HK.out;omega
    case rel =>
     refine ⟨n + 1,by go_num,⟨by omega⟩,⟨?_⟩⟩
     rw [othersN,if_pos HNB.out];exact HS.out
   ·have t1 : ((n : Int) != (but : Int)) = true := by rw [bne_iff_ne];omega
    have hc := Aside0.mk (HC.out _ _ n hlt hnb HS.out)
    go_wp2_with (first|(go_at_call 61;(with_reducible refine hc.out.mono ?_);rintro e w' ⟨rfl,HS2⟩))
    go_roundg (xs.length - (n + 1))
    case measure => have := HK.out;omega
    case rel =>
     refine ⟨n + 1,by go_num,⟨by omega⟩,⟨?_⟩⟩
     rw [othersN,if_neg hnb,List.foldl_append];exact HS2.out
  ·have hd : decide ((n : Int) < (xs.length : Int)) = false := decide_eq_false (by omega)
   have hn : n = xs.length := by have := HK.out;omega
   subst hn
   go_wp2
   go_end0
   exact ⟨rfl,HS⟩
def lagStep (p a x : Int) (s : Int × Int) (o : Int) : Int × Int := (s.1 * ((a - o) % p) % p,s.2 * ((x - o) % p) % p)
def lagS (p a : Int) (xs : List Int) (i : Nat) : Int × Int := (othersN xs i xs.length).foldl (lagStep p a (rd xs i)) (1,1)
def lagW (p a : Int) (xs : List Int) (i : Nat) : Int := (lagS p a xs i).1 * invp p (lagS p a xs i).2 % p
def lagL (p a : Int) (xs : List Int) : Nat → List Int
 | 0 => []
 | n + 1 => lagL p a xs n ++ [lagW p a xs n]
theorem lagL_length (p a : Int) (xs : List Int) : ∀ n,(lagL p a xs n).length = n
 | 0 => rfl
 | n + 1 => by rw [lagL,List.length_append,lagL_length p a xs n];rfl
theorem lag_fold {p : Int} (hp : Supp p) {a x : Int} (hx : Res p x) : ∀ (l : List Int) (s : Int × Int),(∀ o ∈ l,Res p o) → Res p s.1 → Res p s.2 →
  Res p (l.foldl (lagStep p a x) s).1 ∧ Res p (l.foldl (lagStep p a x) s).2 ∧ ((∀ o ∈ l,x ≠ o) → s.2 ≠ 0 → (l.foldl (lagStep p a x) s).2 ≠ 0)
 | [],s,_,h1,h2 => ⟨h1,h2,fun _ h => h⟩
 | o :: l,s,hl,h1,h2 => by
  have ih := lag_fold hp (a := a) hx l (lagStep p a x s o) (fun y hy => hl y (List.mem_cons_of_mem _ hy)) (Res.mod hp _) (Res.mod hp _)
  refine ⟨ih.1,ih.2.1,fun hne h0 => ih.2.2 (fun y hy => hne y (List.mem_cons_of_mem _ hy)) ?_⟩
  exact mul_ne' hp h2 h0 (Res.mod hp _) (sub_ne' hp hx (hl o (by simp)) (hne o (by simp)))
theorem othersN_mem {xs : List Int} {i : Nat} : ∀ {n : Nat} {o : Int},o ∈ othersN xs i n → ∃ j,j < n ∧ j ≠ i ∧ o = rd xs j
 | 0,o,h => by cases h
 | n + 1,o,h => by
  unfold othersN at h
  split at h
  ·obtain ⟨j,h1,h2⟩ := othersN_mem h;exact ⟨j,by omega,h2⟩
  ·rcases List.mem_append.1 h with h|h
   ·obtain ⟨j,h1,h2⟩ := othersN_mem h;exact ⟨j,by omega,h2⟩
   ·exact ⟨n,by omega,by assumption,by simpa using h⟩
theorem lagS_ok {p : Int} (hp : Supp p) {a : Int} {xs : List Int} (hx : ∀ x ∈ xs,Res p x) (hn : xs.Nodup) (i : Nat) (hi : i < xs.length) : Res p (lagS p a xs i).1 ∧ Res p (lagS p a xs i).2 ∧ (lagS p a xs i).2 ≠ 0 := by
 have hb := hp.bd
 have h := lag_fold hp (a := a) (rd_res' hx i hi) (othersN xs i xs.length) (1,1) (fun o ho => by
  obtain ⟨j,h1,_,rfl⟩ := othersN_mem ho;exact rd_res' hx j h1) ⟨by omega,by omega⟩ ⟨by omega,by omega⟩
 refine ⟨h.1,h.2.1,h.2.2 (fun o ho => ?_) (by decide)⟩
 obtain ⟨j,h1,h2,rfl⟩ := othersN_mem ho
 rw [rd_nat,rd_nat,getD_in _ _ hi,getD_in _ _ h1]
 intro e
 rw [List.nodup_iff_pairwise_ne,List.pairwise_iff_getElem] at hn
 rcases Nat.lt_trichotomy i j with h3|h3|h3
 ·exact hn i j hi h1 h3 e
 ·exact h2 h3.symm
 ·exact hn j i h1 hi h3 e.symm
theorem alloc_size (w : World) (o : Obj) : (w.alloc o).heap.size = w.heap.size + 1 := Array.size_push _
structure LagI (wr : World) (bp ba : Nat) (p a x : Int) (s : Int × Int) (w : World) : Prop where
 hp : Box w bp p
 hn : Box w (wr.heap.size + 1) s.1
 ha : Box w ba a
 hd : Box w (wr.heap.size + 1 + 1) s.2
 hx : Box w wr.heap.size x
 r1 : Res p s.1
 r2 : Res p s.2
 below : Below wr.heap.size wr w
theorem lag_inner {p : Int} (hp : Supp p) (A : Option Addr) (c : Nat) (xs : List Int) (a : Int) (ha : Res p a) (hx : ∀ x ∈ xs,Res p x) (hl : xs.length ≤ 1099511627776) (bp ba n : Nat) (hn : n < xs.length) (wr : World) (hr : Kd.C (Kd.int .u64) wr A xs.length xs)
  (hbp : Box wr bp p) (hba : Box wr ba a) :
  Calls Try.prog 60 #[.slice A xs.length c,.int .i64 (n : Int),.func (.func 61) #[] #[.pointer (some ⟨bp,0,none⟩),.pointer (some ⟨wr.heap.size + 1,0,none⟩),.pointer (some ⟨ba,0,none⟩),.pointer (some ⟨wr.heap.size + 1 + 1,0,none⟩),.pointer (some ⟨wr.heap.size,0,none⟩)]]
   (((wr.alloc (Obj.cells #[Value.int IntKind.u64 (rd xs n)] 22)).alloc (Obj.cells #[Value.int IntKind.u64 1] 22)).alloc (Obj.cells #[Value.int IntKind.u64 1] 22))
   fun e w' => e = .returned (.tuple #[]) ∧ Aside0 (LagI wr bp ba p a (rd xs n) (lagS p a xs n) w') := by
 have hpb := hp.bd
 have lp := blk_lt hbp
 have la := blk_lt hba
 refine others_lag (LagI wr bp ba p a (rd xs n)) (lagStep p a (rd xs n)) bp (wr.heap.size + 1) ba (wr.heap.size + 1 + 1) wr.heap.size A c xs n (by omega) hl (fun s w' h => Kd.C_below hr h.below) ?_ (1,1) _ ?_
 ·intro s w' i hi hne h
  refine (lagc_calls hp h.r1 ha h.r2 (rd_res' hx n hn) (rd_res' hx i hi) bp (wr.heap.size + 1) ba (wr.heap.size + 1 + 1) wr.heap.size w' h.hp h.hn h.ha h.hd h.hx (by omega) (by omega) (by omega) (by omega) (by omega)).mono ?_
  rintro e w2 ⟨rfl,i1,i2,rfl⟩
  refine ⟨rfl,⟨?_,?_,?_,?_,?_,Res.mod hp _,Res.mod hp _,?_⟩⟩
  ·exact ((((h.hp.drewN i1).far (by omega) _).drewN i2).far (by omega) _)
  ·exact ((((h.hn.drewN i1).put _).drewN i2).far (by omega) _)
  ·exact ((((h.ha.drewN i1).far (by omega) _).drewN i2).far (by omega) _)
  ·exact ((((h.hd.drewN i1).far (by omega) _).drewN i2).put _)
  ·exact ((((h.hx.drewN i1).far (by omega) _).drewN i2).far (by omega) _)
  ·exact Below.setCell (pw_below_drewN (Below.setCell (pw_below_drewN h.below i1) (p := ⟨wr.heap.size + 1,0,none⟩) (Nat.le_add_right _ _) _) i2) (p := ⟨wr.heap.size + 1 + 1,0,none⟩) (Nat.le_add_right _ 2) _
 ·refine ⟨?_,?_,?_,?_,?_,⟨by omega,by omega⟩,⟨by omega,by omega⟩,below_alloc (below_alloc (below_alloc (Below.refl _ _) _) _) _⟩
  ·exact blk_alloc (blk_alloc (blk_alloc hbp _) _) _
  ·have h := blk_new (wr.alloc (Obj.cells #[Value.int IntKind.u64 (rd xs n)] 22)) (Obj.cells #[Value.int IntKind.u64 1] 22)
   rw [alloc_size] at h
   exact blk_alloc h _
  ·exact blk_alloc (blk_alloc (blk_alloc hba _) _) _
  ·have h := blk_new ((wr.alloc (Obj.cells #[Value.int IntKind.u64 (rd xs n)] 22)).alloc (Obj.cells #[Value.int IntKind.u64 1] 22)) (Obj.cells #[Value.int IntKind.u64 1] 22)
   rw [alloc_size,alloc_size] at h
   exact h
  ·exact blk_alloc (blk_alloc (blk_new wr _) _) _
set_option maxHeartbeats 2000000 in
set_option maxRecDepth 100000 in
theorem lag_walk {p : Int} (hp : Supp p) (A : Option Addr) (c : Nat) (xs : List Int) (a : Int) (ha : Res p a) (hx : ∀ x ∈ xs,Res p x) (hl : xs.length ≤ 49) (w : World) (hr : Kd.C (Kd.int .u64) w A xs.length xs) (hc : xs.length ≤ c) :
  Calls Try.prog 33 #[.int .u64 p,.slice A xs.length c,.int .u64 a] w fun e w' => ∃ v0_ : Value,e = .returned (.tuple #[v0_,.int .i64 (if xs.Nodup then 0 else 1)]) ∧ Kd.R (Kd.int .u64) 22 w' w.heap.size (fun _ => True) v0_ (if xs.Nodup then lagL p a xs xs.length else []) ∧ Below w.heap.size w w' := by
 have HR := Aside0.mk hr
 clear hr
 have hb1 : Below w.heap.size w (w.alloc (Obj.cells #[Value.int IntKind.u64 p] 22)) := below_alloc (Below.refl _ _) _
 have hb2 : Below w.heap.size w ((w.alloc (Obj.cells #[Value.int IntKind.u64 p] 22)).alloc (Obj.cells #[Value.int IntKind.u64 a] 22)) := below_alloc hb1 _
 have hbp0 : Box ((w.alloc (Obj.cells #[Value.int IntKind.u64 p] 22)).alloc (Obj.cells #[Value.int IntKind.u64 a] 22)) w.heap.size p := blk_alloc (blk_new w _) _
 have hba0 : Box ((w.alloc (Obj.cells #[Value.int IntKind.u64 p] 22)).alloc (Obj.cells #[Value.int IntKind.u64 a] 22)) (w.heap.size + 1) a := by
  have h := blk_new (w.alloc (Obj.cells #[Value.int IntKind.u64 p] 22)) (Obj.cells #[Value.int IntKind.u64 a] 22)
  rwa [show (w.alloc (Obj.cells #[Value.int IntKind.u64 p] 22)).heap.size = w.heap.size + 1 from alloc_size _ _] at h
 have HU := Aside0.mk (unlike_big A c xs _ (Kd.C_below HR.out hb2) hc hl)
 have HB2 := Aside0.mk hb2
 have HBP := Aside0.mk hbp0
 have HBA := Aside0.mk hba0
 clear hb1 hb2 hbp0 hba0
 have HX := Aside0.mk hx
 clear hx
 by_cases hnd : xs.Nodup
 ·have hd : decide xs.Nodup = true := decide_eq_true hnd
  rw [if_pos hnd,if_pos hnd]
  have HND := Aside0.mk hnd
  clear hnd
  go_enter Try.func33,Try.ntmps33
  go_wp2_with (first|(go_at_call 59;(with_reducible refine HU.out.mono ?_);rintro e w1 ⟨rfl,hb3⟩;have HB3 := Aside0.mk (below_step HB2.out hb3);have HBP3 := Aside0.mk (show Box w1 w.heap.size p from blk_below HBP.out hb3);have HBA3 := Aside0.mk (show Box w1 (w.heap.size + 1) a from blk_below HBA.out hb3);clear hb3))
  clear hd
  go_loopg [8,18] xs.length (fun kq v8 v18 w' => ∃ (n : Nat),v18 = .int .i64 (n : Int) ∧ Aside0 (kq + n = xs.length) ∧ Aside0 (Kd.R (Kd.int .u64) 22 w' w.heap.size (fun k_ => w.heap.size + 2 ≤ k_) v8 (lagL p a xs n)) ∧ Aside0 (Box w' w.heap.size p ∧ Box w' (w.heap.size + 1) a) ∧ Aside0 (Below w.heap.size w w'))
  case atStart => exact ⟨0,rfl,⟨rfl⟩,⟨Kd.R_nil _ _ _ _ _⟩,⟨HBP3.out,HBA3.out⟩,HB3⟩
  case round =>
   clear HBP3 HBA3 HB3
   obtain ⟨n,rfl,HK,HO,HBx,HB⟩ := hrel
   by_cases hlt : n < xs.length
   ·have p1 : ((0 : Int) ≤ (n : Int)) = True := eq_true (by omega)
    have q1 : ((n : Int) < (xs.length : Int)) = True := eq_true (by omega)
    obtain ⟨ad,e1,hx⟩ := Kd.at_int HR.out (n : Int) (by omega) (by omega)
    cases e1
    replace hx := pw_cell_below HB.out hx
    rw [Int.toNat_natCast] at hx
    have hin := Aside0.mk (lag_inner hp (some ad) c xs a ha HX.out (by omega) w.heap.size (w.heap.size + 1) n hlt wr (Kd.C_below HR.out HB.out) HBx.out.1 HBx.out.2)
    obtain ⟨q1',q2',q3'⟩ := lagS_ok hp (a := a) HX.out HND.out n hlt
    obtain ⟨ko,hko⟩ := (over_ev hp q1' q2' q3').rounds
    have HKO := Aside0.mk hko
    obtain ⟨sn,hsn⟩ : ∃ y,y = (lagS p a xs n).1 := ⟨_,rfl⟩
    obtain ⟨sd,hsd⟩ : ∃ y,y = (lagS p a xs n).2 := ⟨_,rfl⟩
    rw [← hsn,← hsd] at HKO
    have HSN := Aside0.mk hsn
    have HSD := Aside0.mk hsd
    clear hko hsn hsd q1' q2' q3'
    have hlen : (lagL p a xs n).length = n := lagL_length p a xs n
    obtain ⟨y,hy⟩ : ∃ y,y = lagL p a xs n ++ [sn * invp p sd % p] := ⟨_,rfl⟩
    have HY := Aside0.mk hy
    have HLen := Aside0.mk hlen
    clear hy hlen
    go_wp2_with (first
     | (go_at_call 60;(with_reducible refine hin.out.mono ?_);rintro e w4 ⟨rfl,hI⟩;have b1 := (hI.out.hp).cell;have hsz := Aside0.mk (show w.heap.size + 2 ≤ w4.heap.size from blk_lt hI.out.ha);have HBp4 := Aside0.mk hI.out.hp;have HBa4 := Aside0.mk hI.out.ha;have b2 := (hI.out.hn).cell;rw [← HSN.out] at b2;have b3 := (hI.out.hd).cell;rw [← HSD.out] at b3;have HB4 := Aside0.mk (below_step HB.out hI.out.below);have HO4 := Aside0.mk (Kd.R_below HO.out hI.out.below))
     | (go_at_call 62;(with_reducible refine (interpolate_over.calls ko p sn sd (sn * invp p sd % p) _ HKO.out).mono ?_);rintro e w5 ⟨rfl,⟨nd,rfl⟩⟩)
     | ((with_reducible refine gate_builtin (b := .append) (xs := #[.tmp 27,.tmp 32]) rfl ?_);at_builtin;refine Kd.R_append (Kd.int .u64) (w0 := w) w.heap.size rfl (.tmp 27) (.tmp 32) 40 22 (.int .u64 0) 8 rfl Try.underlying40 info22 rfl (by decide) (by omega) u8 (lagL p a xs n) (sn * invp p sd % p) [.int .u64 (sn * invp p sd % p)] (fun k_ => w.heap.size + 2 ≤ k_) (fun _ => False) rfl rfl rfl (fun _ hk => hk.elim) (fun k hk => Nat.le_trans hsz.out hk) (Kd.R_drewN HO4.out nd) (pw_below_drewN HB4.out nd) (below_size (pw_below_drewN HB4.out nd)) (by rw [HLen.out];omega) ?_;intro v6 w6 ho6 hb6 hg6 ha6;rw [← HY.out] at ho6;have HO6 := Aside0.mk ho6;have HB6 := Aside0.mk hb6;have HG6 := Aside0.mk hg6;clear ho6 hb6 hg6 ha6))
    go_roundg (xs.length - (n + 1))
    case measure => have := HK.out;omega
    case rel =>
     have hne : ∀ b,b < w.heap.size + 2 → some b ≠ u8.ownBlock := fun b hb e => by have := HO.out.1 b e.symm;omega
     refine ⟨n + 1,by go_num,⟨by omega⟩,⟨?_⟩,⟨?_,?_⟩,HB6⟩
     ·rw [lagL,lagW,← HSN.out,← HSD.out,← HY.out];exact HO6.out
     ·exact blk_grown (blk_drewN HBp4.out nd) HG6.out (hne _ (by omega))
     ·exact blk_grown (blk_drewN HBa4.out nd) HG6.out (hne _ (by omega))
   ·have hd : decide ((n : Int) < (xs.length : Int)) = false := decide_eq_false (by omega)
    have hn : n = xs.length := by have := HK.out;omega
    subst hn
    clear hlt HK
    go_wp2
    first|go_ret2|((try simp only [Exit.inBlock,Exit.then]);refine bodyPost_ret (results_tmp rfl _ _ rfl) rfl ?_)
    exact ⟨_,rfl,Kd.R_mono HO.out (fun _ _ => trivial),HB.out⟩
 ·have hd : decide xs.Nodup = false := decide_eq_false hnd
  rw [if_neg hnd,if_neg hnd]
  go_enter Try.func33,Try.ntmps33
  go_wp2_with (first|(go_at_call 59;(with_reducible refine HU.out.mono ?_);rintro e w1 ⟨rfl,hb3⟩;have HB3 := Aside0.mk (below_step HB2.out hb3);clear hb3))
  first|go_ret2|((try simp only [Exit.inBlock,Exit.then]);refine bodyPost_ret (results_tmp rfl _ _ rfl) rfl ?_)
  exact ⟨_,rfl,Kd.R_nil _ _ _ _ _,HB3.out⟩
end Go.Proofs.Ytmdoaijkaaaglaa.Hw
end
section
namespace Go.Proofs.Ytmdoaijkaaaglaa.E
open Go.RowKit Go.Proofs.Ytmdoaijkaaaglaa.Pr Go.Proofs.Ytmdoaijkaaaglaa.Hw Go.Proofs.YtmdoaijkaaaglaaW.PrintWords Go.Proofs.YtmdoaijkaaaglaaW.PrintLast Go.Proofs.YtmdoaijkaaaglaaW.PrintMore
def trimL : List Int → List Int
 | [] => []
 | x :: l => match trimL l with
  | [] => if x = 0 then [] else [x]
  | y :: t => x :: y :: t
theorem trimL_cons (x : Int) (l : List Int) : trimL (x :: l) = if trimL l = [] then (if x = 0 then [] else [x]) else x :: trimL l := by
 rw [trimL]
 split
 ·rename_i h;rw [h,if_pos rfl]
 ·rename_i y t h;rw [h,if_neg (by simp)]
theorem trimL_length (l : List Int) : (trimL l).length ≤ l.length := by
 induction l with
 | nil => simp [trimL]
 | cons x l ih =>
  rw [trimL_cons]
  split
  ·split <;> simp
  ·simp only [List.length_cons];omega
theorem trimL_take (l : List Int) : l.take (trimL l).length = trimL l := by
 induction l with
 | nil => simp [trimL]
 | cons x l ih =>
  rw [trimL_cons]
  split
  ·split <;> simp
  ·simp only [List.length_cons,List.take_succ_cons,ih]
theorem trimL_getD (l : List Int) (i : Nat) : (trimL l).getD i 0 = l.getD i 0 := by
 induction l generalizing i with
 | nil => simp [trimL]
 | cons x l ih =>
  rw [trimL_cons]
  split
  ·rename_i h
   have hz : ∀ j,l.getD j 0 = 0 := fun j => by rw [← ih j,h];simp
   split
   ·rename_i h0
    cases i with
    | zero => simp [h0]
    | succ i => rw [List.getD_cons_succ,hz];simp
   ·cases i with
    | zero => simp
    | succ i => rw [List.getD_cons_succ,List.getD_cons_succ,hz];simp
  ·cases i with
   | zero => simp
   | succ i => rw [List.getD_cons_succ,List.getD_cons_succ];exact ih i
theorem trimL_last (l : List Int) (h : trimL l ≠ []) : (trimL l).getD ((trimL l).length - 1) 0 ≠ 0 := by
 induction l with
 | nil => exact absurd rfl h
 | cons x l ih =>
  rw [trimL_cons] at h ⊢
  by_cases hl : trimL l = []
  ·rw [if_pos hl] at h ⊢
   by_cases h0 : x = 0
   ·rw [if_pos h0] at h;exact absurd rfl h
   ·rw [if_neg h0];simpa using h0
  ·rw [if_neg hl]
   have hp : 0 < (trimL l).length := List.length_pos_iff.2 hl
   rw [List.length_cons,show (trimL l).length + 1 - 1 = (trimL l).length - 1 + 1 from by omega,List.getD_cons_succ]
   exact ih hl
theorem trimL_nil_iff (l : List Int) : trimL l = [] ↔ ∀ i,l.getD i 0 = 0 := by
 constructor
 ·intro h i;rw [← trimL_getD,h];simp
 ·intro h
  refine Classical.byContradiction fun hn => trimL_last l hn ?_
  rw [trimL_getD];exact h _
theorem trimL_mem {l : List Int} {x : Int} (h : x ∈ trimL l) : x ∈ l := by
 rw [← trimL_take] at h;exact List.mem_of_mem_take h
theorem trimL_ext {l m : List Int} (h : ∀ i,l.getD i 0 = m.getD i 0) : trimL l = trimL m := by
 have hlen : ∀ {a b : List Int},(∀ i,a.getD i 0 = b.getD i 0) → (trimL a).length ≤ (trimL b).length := by
  intro a b hab
  by_cases ha : trimL a = []
  ·rw [ha];simp
  ·have h1 := trimL_last a ha
   have hp : 0 < (trimL a).length := List.length_pos_iff.2 ha
   rw [trimL_getD,hab,← trimL_getD b] at h1
   refine Nat.le_of_not_lt fun hlt => h1 ?_
   rw [List.getD_eq_getElem?_getD,List.getElem?_eq_none (by omega)];rfl
 refine List.ext_getElem? fun i => ?_
 have hl : (trimL l).length = (trimL m).length := Nat.le_antisymm (hlen h) (hlen fun i => (h i).symm)
 by_cases hi : i < (trimL l).length
 ·have e1 := trimL_getD l i
  have e2 := trimL_getD m i
  rw [List.getD_eq_getElem?_getD,List.getElem?_eq_getElem hi] at e1
  rw [List.getD_eq_getElem?_getD,List.getElem?_eq_getElem (by omega)] at e2
  rw [List.getElem?_eq_getElem hi,List.getElem?_eq_getElem (by omega)]
  simp only [Option.getD_some] at e1 e2
  rw [e1,e2,h i]
 ·rw [List.getElem?_eq_none (by omega),List.getElem?_eq_none (by omega)]
def evI (p x : Int) : List Int → Int
 | [] => 0
 | c :: f => (evI p x f * x % p + c) % p
theorem evI_res {p : Int} (hp : Supp p) (x : Int) : ∀ l,Res p (evI p x l)
 | [] => by have := hp.bd;exact ⟨Int.le_refl 0,by show (0 : Int) < p;omega⟩
 | c :: l => Res.mod hp _
end Go.Proofs.Ytmdoaijkaaaglaa.E
end
section
namespace Go.Proofs.Ytmdoaijkaaaglaa.Hw
open Go.RowKit Go.Proofs.Ytmdoaijkaaaglaa.Pr Go.Proofs.YtmdoaijkaaaglaaW.PrintWords Go.Proofs.YtmdoaijkaaaglaaW.PrintLast Go.Proofs.YtmdoaijkaaaglaaW.PrintMore Go.Proofs.Ytmdoaijkaaaglaa.E
structure PolI (wr : World) (bp bf bd bx : Nat) (p X Y : Int) (s : List Int × Int) (w : World) : Prop where
 hp : Box w bp p
 hf : ∃ A c,w.heap[bf]? = some (.cells #[.slice A s.1.length c] 40 (0,0)) ∧ Kd.R (Kd.int .u64) 22 w wr.heap.size (fun k => k ≠ bd) (.slice A s.1.length c) s.1
 hd : Box w bd s.2
 hx : w.heap[bx]? = some (.cells #[.int .u64 X,.int .u64 Y] 56 (0,0))
 r1 : ∀ x ∈ s.1,Res p x
 r2 : Res p s.2
 below : Below wr.heap.size wr w
theorem cell_alloc_of {w : World} {n : Nat} {a : Addr} {v : Value} (h : w.cell? a = some v) (o : Obj) : ((w.drewN n).alloc o).cell? a = some v := (World.cell?_alloc_lt _ _ _ (World.block_lt_of_cell? w _ h)).trans h
def xsOf (pts : List S56) : List Int := pts.map fun x => x.f0
theorem rdT_nat (pts : List S56) (i : Nat) (h : i < pts.length) : rd_T56 pts (i : Int) = pts[i] := by
 unfold rd_T56;rw [Int.toNat_natCast,List.getD_eq_getElem?_getD,List.getElem?_eq_getElem h];rfl
def PtsOk (p : Int) (pts : List S56) : Prop := ∀ x ∈ pts,Res p x.f0 ∧ Res p x.f1
theorem PtsOk.xs {p : Int} {pts : List S56} (h : PtsOk p pts) : ∀ x ∈ xsOf pts,Res p x := by
 intro x hx
 obtain ⟨y,hy,rfl⟩ := List.mem_map.1 hx
 exact (h y hy).1
theorem PtsOk.at_ {p : Int} {pts : List S56} (h : PtsOk p pts) (i : Nat) (hi : i < pts.length) : Res p (rd_T56 pts (i : Int)).f0 ∧ Res p (rd_T56 pts (i : Int)).f1 := by
 rw [rdT_nat _ _ hi];exact h _ (List.getElem_mem _)
theorem othersN_length (xs : List Int) (b : Nat) : ∀ n,(othersN xs b n).length ≤ n
 | 0 => Nat.le_refl _
 | n + 1 => by
  have := othersN_length xs b n
  unfold othersN
  split
  ·omega
  ·rw [List.length_append];simp only [List.length_cons,List.length_nil];omega
theorem one_res {p : Int} (hp : Supp p) : ∀ x ∈ [(1 : Int)],Res p x := by
 have := hp.bd
 intro x hx
 simp only [List.mem_cons,List.not_mem_nil,or_false] at hx
 subst hx
 exact ⟨by omega,by omega⟩
def supB (p : Int) : Bool := decide (p = 31) || decide (p = 127) || decide (p = 8191) || decide (p = 131071) || decide (p = 524287) || decide (p = 2147483647) || decide (p = 2305843009213693951)
theorem supB_of {p : Int} (h : supB p = true) : Supp p := by
 simp only [supB,Bool.or_eq_true,decide_eq_true_eq] at h
 rcases h with (((((h|h)|h)|h)|h)|h)|h
 ·exact ⟨5,Or.inl ⟨h,rfl⟩⟩
 ·exact ⟨7,Or.inr (Or.inl ⟨h,rfl⟩)⟩
 ·exact ⟨13,Or.inr (Or.inr (Or.inl ⟨h,rfl⟩))⟩
 ·exact ⟨17,Or.inr (Or.inr (Or.inr (Or.inl ⟨h,rfl⟩)))⟩
 ·exact ⟨19,Or.inr (Or.inr (Or.inr (Or.inr (Or.inl ⟨h,rfl⟩))))⟩
 ·exact ⟨31,Or.inr (Or.inr (Or.inr (Or.inr (Or.inr (Or.inl ⟨h,rfl⟩)))))⟩
 ·exact ⟨61,Or.inr (Or.inr (Or.inr (Or.inr (Or.inr (Or.inr ⟨h,rfl⟩)))))⟩
theorem supB_iff {p : Int} : supB p = true ↔ Supp p := by
 refine ⟨supB_of,fun ⟨q,h⟩ => ?_⟩
 rcases h with ⟨rfl,_⟩|⟨rfl,_⟩|⟨rfl,_⟩|⟨rfl,_⟩|⟨rfl,_⟩|⟨rfl,_⟩|⟨rfl,_⟩ <;> rfl
def resB (p x : Int) : Bool := decide (0 ≤ x) && decide (x < p)
theorem resB_iff {p x : Int} : resB p x = true ↔ Res p x := by simp [resB,Res]
def ressB (p : Int) (l : List Int) : Bool := l.all (resB p)
theorem ressB_iff {p : Int} {l : List Int} : ressB p l = true ↔ ∀ x ∈ l,Res p x := by simp [ressB,resB_iff]
theorem ifs {c : Prop} [Decidable c] {α : Type} {x : Option α} {r : α} (h : (if c then x else none) = some r) : c ∧ x = some r := by
 by_cases hc : c
 ·rw [if_pos hc] at h;exact ⟨hc,h⟩
 ·rw [if_neg hc] at h;cases h
def interpolate_LagrangeWeights.f (a0 : Int) (l1 : List Int) (a2 : Int) : Option (List Int × Int) :=
 if supB a0 = true then (if ressB a0 l1 = true then (if resB a0 a2 = true then (if l1.length ≤ 49 then some (if l1.Nodup then lagL a0 a2 l1 l1.length else [],if l1.Nodup then 0 else 1) else none) else none) else none) else none
theorem interpolate_LagrangeWeights.calls (a0 : Int) (A1 : Option Addr) (c1 : Nat) (l1 : List Int) (a2 : Int) (r1 : List Int) (r2 : Int) (w : World) (hr1 : Kd.C (Kd.int .u64) w A1 l1.length l1) (hc1 : l1.length ≤ c1) (h : interpolate_LagrangeWeights.f a0 l1 a2 = some (r1,r2)) :
  Calls Try.prog 33 #[.int .u64 a0,.slice A1 l1.length c1,.int .u64 a2] w fun e w' => ∃ v0_ : Value,e = .returned (.tuple #[v0_,.int .i64 r2]) ∧ Kd.R (Kd.int .u64) 22 w' w.heap.size (fun _ => True) v0_ r1 ∧ Below w.heap.size w w' := by
 unfold interpolate_LagrangeWeights.f at h
 obtain ⟨h1,h⟩ := ifs h
 obtain ⟨h2,h⟩ := ifs h
 obtain ⟨h3,h⟩ := ifs h
 obtain ⟨h4,h⟩ := ifs h
 have h := Option.some.inj h
 have e1 := congrArg Prod.fst h
 have e2 := congrArg Prod.snd h
 simp only at e1 e2
 rw [← e1,← e2]
 exact lag_walk (supB_of h1) A1 c1 l1 a2 (resB_iff.1 h3) (ressB_iff.1 h2) h4 w hr1 hc1
end Go.Proofs.Ytmdoaijkaaaglaa.Hw
end
section
namespace Go.Proofs.Ytmdoaijkaaaglaa.Pr
open Go.RowKit Go.Proofs.YtmdoaijkaaaglaaW.PrintWords Go.Proofs.YtmdoaijkaaaglaaW.PrintLast Go.Proofs.YtmdoaijkaaaglaaW.PrintMore
attribute [local go_sem] max2_int min2_int max_two min_two max_three min_three max_four min_four
open Go.Proofs.Ytmdoaijkaaaglaa.Hw
mutual
def hyperinvertible_New.j0 : Nat → Int → Int → Int → Bool → Option ((List (List Int)) × Int)
 | 0,_,_,_,_ => none
 | k + 1,x0,x1,x2,x35 => if x35 = true then (some (([] : List (List Int)),2)) else ((hyperinvertible_points.f k 1 x2).bind fun t372 => ((hyperinvertible_points.f k (wrap64 (x2 + 1)) x1).bind fun t375 => (hyperinvertible_New.l0 k x0 t372 ([] : List (List Int)) t375 (t375.length : Int) 0)))
def hyperinvertible_New.l0 : Nat → Int → List Int → List (List Int) → List Int → Int → Int → Option ((List (List Int)) × Int)
 | 0,_,_,_,_,_,_ => none
 | k + 1,x0,x8,x9,x41,x42,x43 => if x43 < x42 then (if 0 ≤ x43 then (if x43 < (x41.length : Int) then ((interpolate_LagrangeWeights.f x0 x8 (rd x41 x43)).bind fun bt379 => (if bt379.2 = 0 then (if x9.length < 5864062014805 then (hyperinvertible_New.l0 k x0 x8 (x9 ++ [bt379.1]) x41 x42 (wrap64 (x43 + 1))) else (none)) else (some (([] : List (List Int)),bt379.2)))) else (none)) else (none)) else (some (x9,0))
end
def hyperinvertible_New.f (k : Nat) (a0 : Int) (a1 : Int) (a2 : Int) : Option ((List (List Int)) × Int) := if a1 < 1 then (hyperinvertible_New.j0 k a0 a1 a2 true) else (if a1 > 26 then (hyperinvertible_New.j0 k a0 a1 a2 true) else (if a2 < 1 then (hyperinvertible_New.j0 k a0 a1 a2 true) else (if a2 > 26 then (hyperinvertible_New.j0 k a0 a1 a2 true) else (hyperinvertible_New.j0 k a0 a1 a2 (decide ((IntKind.u64.wrap (wrap64 (a1 + a2))) ≥ a0))))))
theorem hyperinvertible_New.mono_l : ∀ k,(∀ y0 y1 y2 y3,LeO (hyperinvertible_New.j0 k y0 y1 y2 y3) (hyperinvertible_New.j0 (k + 1) y0 y1 y2 y3)) ∧ (∀ y0 y1 y2 y3 y4 y5,LeO (hyperinvertible_New.l0 k y0 y1 y2 y3 y4 y5) (hyperinvertible_New.l0 (k + 1) y0 y1 y2 y3 y4 y5))
 | 0 => ⟨fun _ _ _ _ r h => by simp [hyperinvertible_New.j0] at h,fun _ _ _ _ _ _ r h => by simp [hyperinvertible_New.l0] at h⟩
 | k + 1 => by
  obtain ⟨ih0,ih1⟩ := hyperinvertible_New.mono_l k
  refine ⟨?_,?_⟩
  ·intro y0 y1 y2 y3
   unfold hyperinvertible_New.j0
   repeat' first
   | (with_reducible exact ih0 _ _ _ _)
   | (with_reducible exact ih1 _ _ _ _ _ _)
   | (with_reducible exact hyperinvertible_points.mono _ _ _)
   | (with_reducible exact LeO.refl _)
   | (with_reducible exact LeO.none _)
   | (with_reducible refine LeO.ite ?_ ?_)
   | (with_reducible refine LeO.bind ?_ (fun _ => ?_))
   | exact ih0 _ _ _ _
   | exact ih1 _ _ _ _ _ _
   | exact hyperinvertible_points.mono _ _ _
   | exact LeO.none _
   | refine LeO.ite ?_ ?_
   | refine LeO.bind ?_ (fun _ => ?_)
  ·intro y0 y1 y2 y3 y4 y5
   unfold hyperinvertible_New.l0
   repeat' first
   | (with_reducible exact ih0 _ _ _ _)
   | (with_reducible exact ih1 _ _ _ _ _ _)
   | (with_reducible exact hyperinvertible_points.mono _ _ _)
   | (with_reducible exact LeO.refl _)
   | (with_reducible exact LeO.none _)
   | (with_reducible refine LeO.ite ?_ ?_)
   | (with_reducible refine LeO.bind ?_ (fun _ => ?_))
   | exact ih0 _ _ _ _
   | exact ih1 _ _ _ _ _ _
   | exact hyperinvertible_points.mono _ _ _
   | exact LeO.none _
   | refine LeO.ite ?_ ?_
   | refine LeO.bind ?_ (fun _ => ?_)
theorem hyperinvertible_New.mono : ∀ a0 a1 a2 k,LeO (hyperinvertible_New.f k a0 a1 a2) (hyperinvertible_New.f (k + 1) a0 a1 a2) := by
 intro a0 a1 a2 k
 obtain ⟨ih0,ih1⟩ := hyperinvertible_New.mono_l k
 unfold hyperinvertible_New.f
 repeat' first
   | (with_reducible exact ih0 _ _ _ _)
   | (with_reducible exact ih1 _ _ _ _ _ _)
   | (with_reducible exact hyperinvertible_points.mono _ _ _)
   | (with_reducible exact LeO.refl _)
   | (with_reducible exact LeO.none _)
   | (with_reducible refine LeO.ite ?_ ?_)
   | (with_reducible refine LeO.bind ?_ (fun _ => ?_))
   | exact ih0 _ _ _ _
   | exact ih1 _ _ _ _ _ _
   | exact hyperinvertible_points.mono _ _ _
   | exact LeO.none _
   | refine LeO.ite ?_ ?_
   | refine LeO.bind ?_ (fun _ => ?_)
set_option maxHeartbeats 8000000 in
set_option maxRecDepth 100000 in
theorem hyperinvertible_New.calls (k : Nat) (a0 : Int) (a1 : Int) (a2 : Int) (r1 : List (List Int)) (r2 : Int) (w : World) (h : hyperinvertible_New.f k a0 a1 a2 = some (r1,r2)) :
  Calls Try.prog 14 #[.int .u64 a0,.int .i64 a1,.int .i64 a2] w fun e w' => ∃ v0_ : Value,e = .returned (.tuple #[v0_,.int .i64 r2]) ∧ Kd.S (Kd.slice 22 (Kd.int .u64)) 40 w' w.heap.size (fun _ => True) v0_ r1 ∧ Below w.heap.size w w' := by
 have HB := am (Below.refl w.heap.size w)
 have H : (if a1 < 1 then (hyperinvertible_New.j0 k a0 a1 a2 true) else (if a1 > 26 then (hyperinvertible_New.j0 k a0 a1 a2 true) else (if a2 < 1 then (hyperinvertible_New.j0 k a0 a1 a2 true) else (if a2 > 26 then (hyperinvertible_New.j0 k a0 a1 a2 true) else (hyperinvertible_New.j0 k a0 a1 a2 (decide ((IntKind.u64.wrap (wrap64 (a1 + a2))) ≥ a0))))))) = some (r1,r2) := h
 clear h
 have HC4 := am H
 clear H
 go_enter Try.func14,Try.ntmps14
 go_upto_region 1 with (fail)
 go_cut [35] (fun v35 wc => ∃ (kq : Nat) (x35_3 : Bool),v35 = .bool x35_3 ∧ Aside0 (hyperinvertible_New.j0 kq a0 a1 a2 x35_3 = some (r1,r2)) ∧ Aside0 (kq ≤ k) ∧ Aside0 (Below w.heap.size w wc))
 case first =>
  have H := HC4.out
  clear HC4
  by_cases c5 : a1 < 1
  ·rw [if_pos c5] at H
   have c5b0 : decide (a1 < 1) = true := decide_eq_true c5
   clear c5
   (first|rw [c5b0]|(simp only [i64_w,i32_w];rw [c5b0])|skip)
   have H' := am H
   clear H
   go_wp2
   go_meet
   case rel => exact ⟨_,(true),(by first|rfl|(simp;done)|(simp [*];done)),H',⟨by first|omega|exact Nat.le_refl _⟩,⟨bb HB⟩⟩
  ·rw [if_neg c5] at H
   have c5b0 : decide (a1 < 1) = false := decide_eq_false c5
   clear c5
   (first|rw [c5b0]|(simp only [i64_w,i32_w];rw [c5b0])|skip)
   by_cases c6 : a1 > 26
   ·rw [if_pos c6] at H
    have c6b0 : decide (26 < a1) = true := decide_eq_true c6
    clear c6
    have H' := am H
    clear H
    go_wp2
    go_meet
    case rel => exact ⟨_,(true),(by first|rfl|(simp;done)|(simp [*];done)),H',⟨by first|omega|exact Nat.le_refl _⟩,⟨bb HB⟩⟩
   ·rw [if_neg c6] at H
    have c6b0 : decide (26 < a1) = false := decide_eq_false c6
    clear c6
    by_cases c7 : a2 < 1
    ·rw [if_pos c7] at H
     have c7b0 : decide (a2 < 1) = true := decide_eq_true c7
     clear c7
     have H' := am H
     clear H
     go_wp2
     go_meet
     case rel => exact ⟨_,(true),(by first|rfl|(simp;done)|(simp [*];done)),H',⟨by first|omega|exact Nat.le_refl _⟩,⟨bb HB⟩⟩
    ·rw [if_neg c7] at H
     have c7b0 : decide (a2 < 1) = false := decide_eq_false c7
     clear c7
     by_cases c8 : a2 > 26
     ·rw [if_pos c8] at H
      have c8b0 : decide (26 < a2) = true := decide_eq_true c8
      clear c8
      have H' := am H
      clear H
      go_wp2
      go_meet
      case rel => exact ⟨_,(true),(by first|rfl|(simp;done)|(simp [*];done)),H',⟨by first|omega|exact Nat.le_refl _⟩,⟨bb HB⟩⟩
     ·rw [if_neg c8] at H
      have c8b0 : decide (26 < a2) = false := decide_eq_false c8
      clear c8
      have H' := am H
      clear H
      go_wp2
      go_meet
      case rel => exact ⟨_,(decide ((IntKind.u64.wrap (wrap64 (a1 + a2))) ≥ a0)),(by first|rfl|(simp;done)|(simp [*];done)),H',⟨by first|omega|exact Nat.le_refl _⟩,⟨bb HB⟩⟩
 case rest =>
  clear HC4
  try clear c1
  try clear p2
  try clear c5
  try clear c5b0
  try clear c6
  try clear c6b0
  try clear p6
  try clear c7
  try clear c7b0
  try clear c8
  try clear c8b0
  obtain ⟨kq,x35_3,rfl,HA,HJ3,HB⟩ := hcut
  cases kq with
  | zero => exact absurd HA.out (by simp [hyperinvertible_New.j0])
  | succ kj3 =>
   have H := HA.out
   clear HA
   simp only [hyperinvertible_New.j0] at H
   by_cases c9 : x35_3 = true
   ·subst c9
    rw [if_pos rfl] at H
    simp only [Option.some.injEq,Prod.mk.injEq] at H
    obtain ⟨rfl,rfl⟩ := H
    go_wp2
    go_ret2
    exact ⟨_,by first|rfl|(simp [errW_none,errW_some] <;> rfl)|(simp [*,errW_none,errW_some] <;> rfl),by first|exact Kd.S_nil _ _ _ _ _|exact Kd.N_nil _ _ _ _ _|exact Kd.V_nil _ _ _ _ _|exact Kd.Q_nil _ _ _ _ _|exact Kd.R_nil _ _ _ _ _,bb HB⟩
   ·replace c9 := Bool.eq_false_iff.mpr c9
    subst c9
    rw [if_neg (show ¬ (false = true) by decide)] at H
    replace H := Option.bind_eq_some_iff.mp H
    obtain ⟨t372,A100,H⟩ := H
    try dsimp only at H
    have A10 := am A100
    clear A100
    replace H := Option.bind_eq_some_iff.mp H
    obtain ⟨t375,A110,H⟩ := H
    try dsimp only at H
    have A11 := am A110
    clear A110
    have H' := am H
    clear H
    go_wp2_with (first|((with_reducible refine gate_callee (f := 39) rfl ?_);refine goesL_ (some 37) rfl rfl Try.func39 (by kernel_rfl) rfl #[.int .i64 1,.int .i64 a2] rfl (by (try simp only [List.map_toArray,List.map_cons,List.map_nil]);first|done|rfl|(simp only [List.length_drop,List.length_take];rfl)) ?_;(with_reducible refine (hyperinvertible_points.calls kj3 1 a2 t372 _ A10.out).mono ?_);rintro e w12 ⟨v373,rfl,ho0,hb⟩;refine ⟨_,rfl,?_⟩;have n0_ := am (Kd.R_lower ho0 (below_size (bb HB)));have n1_ := am (below_step (bb HB) hb);clear HB;have HO374 := n0_;have HB := n1_;clear n0_ n1_;(try clear hb);(try clear hb2);(try clear hk);(try clear hi);(try clear ho0))|((with_reducible refine gate_callee (f := 39) rfl ?_);refine goesL_ (some 41) rfl rfl Try.func39 (by kernel_rfl) rfl #[.int .i64 (wrap64 (a2 + 1)),.int .i64 a1] rfl (by (try simp only [List.map_toArray,List.map_cons,List.map_nil]);first|done|rfl|(simp only [List.length_drop,List.length_take];rfl)) ?_;(with_reducible refine (hyperinvertible_points.calls kj3 (wrap64 (a2 + 1)) a1 t375 _ A11.out).mono ?_);rintro e w13 ⟨v376,rfl,ho0,hb⟩;refine ⟨_,rfl,?_⟩;have n0_ := am (Kd.R_elder' (rr HO374) (Kd.R_base ho0) hb);have n1_ := am (Kd.R_lower (Kd.R_new' ho0 (Kd.R_lt (rr HO374))) (below_size (bb HB)));have n2_ := am (below_step (bb HB) hb);clear HO374 HB;have HO374 := n0_;have HO377 := n1_;have HB := n2_;clear n0_ n1_ n2_;(try clear hb);(try clear hb2);(try clear hk);(try clear hi);(try clear ho0);obtain ⟨Ao14,co14,eo14⟩ := Kd.R_slice HO377.out;subst eo14))
    go_loopg [9,43] kj3 (fun kq v9 v43 w' => ∃ (x9_2 : List (List Int)) (x43_2 : Int),v43 = .int .i64 x43_2 ∧ Aside0 (hyperinvertible_New.l0 kq a0 t372 x9_2 t375 (t375.length : Int) x43_2 = some (r1,r2)) ∧ Aside0 (kq ≤ kj3) ∧ Aside0 (Kd.R (Kd.int .u64) 22 w' w.heap.size (fun k_ => some k_ ≠ ((.slice Ao14 t375.length co14) : Value).ownBlock) v373 t372) ∧ Aside0 (Kd.S (Kd.slice 22 (Kd.int .u64)) 40 w' w.heap.size (fun k_ => some k_ ≠ (v373 : Value).ownBlock ∧ some k_ ≠ ((.slice Ao14 t375.length co14) : Value).ownBlock) v9 x9_2) ∧ Aside0 (Kd.R (Kd.int .u64) 22 w' w.heap.size (fun k_ => some k_ ≠ (v373 : Value).ownBlock) (.slice Ao14 t375.length co14) t375) ∧ Aside0 (Below w.heap.size w w'))
    case atStart => exact ⟨(([] : List (List Int))),(0),(by first|rfl|(simp;done)|(simp [*];done)),H',⟨Nat.le_refl _⟩,⟨by (with_reducible repeat (first|apply Kd.R_alloc|apply Kd.R_drewN|apply Kd.R_drew));exact Kd.R_mono HO374.out (fun _ hk => hk.2)⟩,⟨by first|exact Kd.S_nil _ _ _ _ _|exact Kd.N_nil _ _ _ _ _|exact Kd.V_nil _ _ _ _ _|exact Kd.Q_nil _ _ _ _ _|exact Kd.R_nil _ _ _ _ _⟩,⟨by (with_reducible repeat (first|apply Kd.R_alloc|apply Kd.R_drewN|apply Kd.R_drew));exact Kd.R_mono HO377.out (fun _ hk => hk.2)⟩,⟨bb HB⟩⟩
    case round =>
     clear H'
     try clear c1
     try clear p2
     try clear c3
     try clear c5
     try clear c5b0
     try clear c6
     try clear c6b0
     try clear p6
     try clear c7
     try clear c7b0
     try clear c8
     try clear c8b0
     try clear c9
     try clear c14
     try clear p2
     try clear p6
     obtain ⟨x9_2,x43_2,rfl,HA,HK2,HO_8,HO_9,HO_41,HB⟩ := hrel
     cases gk with
     | zero => exact absurd HA.out (by simp [hyperinvertible_New.l0])
     | succ k2 =>
      have H := HA.out
      clear HA
      simp only [hyperinvertible_New.l0] at H
      by_cases c15 : x43_2 < (t375.length : Int)
      ·rw [if_pos c15] at H
       have c15b0 : decide (x43_2 < (t375.length : Int)) = true := decide_eq_true c15
       clear c15
       by_cases c16 : 0 ≤ x43_2
       ·rw [if_pos c16] at H
        have c16b0 : decide (0 ≤ x43_2) = true := decide_eq_true c16
        clear c16
        by_cases c17 : x43_2 < (t375.length : Int)
        ·rw [if_pos c17] at H
         have c17b0 : decide (x43_2 < (t375.length : Int)) = true := decide_eq_true c17
         clear c17
         replace H := Option.bind_eq_some_iff.mp H
         obtain ⟨⟨t379,t380⟩,A180,H⟩ := H
         try dsimp only at H
         have A18 := am A180
         clear A180
         by_cases c19 : t380 = 0
         ·rw [if_pos c19] at H
          have c19b0 : (t380 == 0) = true := beq_iff_eq.mpr c19
          have c19b1 : (t380 != 0) = false := bne_eq_false_iff_eq.mpr c19
          clear c19
          by_cases c20 : x9_2.length < 5864062014805
          ·rw [if_pos c20] at H
           have LMc20 := am c20
           clear c20
           obtain ⟨y383,hy383⟩ : ∃ y_ : List (List Int),y_ = (x9_2 ++ [t379]) := ⟨_,rfl⟩
           replace H : (hyperinvertible_New.l0 k2 a0 t372 y383 t375 (t375.length : Int) (wrap64 (x43_2 + 1))) = some (r1,r2) := by first|(rw [hy383];with_reducible exact H)|(have H2_ := (Option.bind_some _ _).symm.trans H;rw [hy383];with_reducible exact H2_)|(have H2_ := (Option.bind_some _ _).symm.trans H;with_reducible exact H2_)|with_reducible exact H|(rw [hy383];exact H)|exact H
           have Ny383 := am hy383
           clear hy383
           have H' := am H
           clear H
           have p378 : 0 ≤ (x43_2 : Int) := od
           have q378 : x43_2 < (t375.length : Int) := od
           obtain ⟨ad378,e378,hx378_0⟩ := Kd.at_int (Kd.R_reads' HO_41.out).2.2 x43_2 p378 q378
           cases e378
           replace p378 := eq_true p378
           replace q378 := eq_true q378
           obtain ⟨Ao21,co21,eo21⟩ := Kd.R_slice HO_8.out
           subst eo21
           go_wp2_with (first|((with_reducible refine gate_callee (f := 33) rfl ?_);refine goesL_ (some 51) rfl rfl Try.func33 (by kernel_rfl) rfl #[.int .u64 a0,.slice Ao21 t372.length co21,.int .u64 (rd t375 x43_2)] rfl (by (try simp only [List.map_toArray,List.map_cons,List.map_nil]);first|done|rfl|(simp only [List.length_drop,List.length_take];rfl)) ?_;(with_reducible refine (interpolate_LagrangeWeights.calls a0 _ _ t372 (rd t375 x43_2) t379 t380 _ ?side1 ?side2 A18.out).mono ?_);(case side1 => exact cr HO_8);(case side2 => exact (Kd.R_reads' HO_8.out).2.1);rintro e w22 ⟨v381,rfl,ho0,hb⟩;refine ⟨_,rfl,?_⟩;have n0_ := am (Kd.R_elder' (rr HO_8) (Kd.R_base ho0) hb);have n1_ := am (Kd.S_elder' (by (with_reducible repeat (first|apply Kd.S_alloc|apply Kd.S_drewN|apply Kd.S_drew));exact HO_9.out) (Kd.R_base ho0) hb);have n2_ := am (Kd.R_elder' (rr HO_41) (Kd.R_base ho0) hb);have n3_ := am (Kd.R_lower (Kd.R_new' (Kd.R_new' ho0 (Kd.R_lt (rr HO_8))) (Kd.R_lt (rr HO_41))) (below_size (bb HB)));have n4_ := am (below_step (bb HB) hb);clear HO_8 HO_9 HO_41 HB;have HO_8 := n0_;have HO_9 := n1_;have HO_41 := n2_;have HO382 := n3_;have HB := n4_;clear n0_ n1_ n2_ n3_ n4_;(try clear hb);(try clear hb2);(try clear hk);(try clear hi);(try clear ho0);obtain ⟨Ao24,co24,eo24⟩ := Kd.R_slice HO382.out;subst eo24)|((with_reducible refine gate_builtin (b := .append) (xs := #[.tmp 57,.tmp 59]) rfl ?_);at_builtin;refine Kd.S_append (Kd.slice 22 (Kd.int .u64)) (w0 := w) w.heap.size rfl (.tmp 57) (.tmp 59) 25 40 (.slice none 0 0) 24 rfl Try.underlying25 info40 rfl (by decide) (by omega) u9 x9_2 t379 [.slice Ao24 t379.length co24] (fun k_ => some k_ ≠ (.slice Ao21 t372.length co21 : Value).ownBlock ∧ some k_ ≠ (.slice (some ad378) t375.length co14 : Value).ownBlock) (fun k_ => some k_ = (.slice Ao24 t379.length co24 : Value).ownBlock) rfl rfl ?aP (fun k_ hk_ => ((Kd.R_mono (ok' := fun k_ => ((fun k_ => some k_ ≠ (.slice Ao21 t372.length co21 : Value).ownBlock ∧ some k_ ≠ (.slice (some ad378) t375.length co14 : Value).ownBlock)) k_ ∧ some k_ ≠ (u9 : Value).ownBlock) (Kd.R_apart' (HO382.out) (Kd.S_typed HO_9.out) (by decide)) (fun k_ hk => ⟨⟨hk.1.1.2,hk.1.2⟩,hk.2⟩))).1 k_ hk_.symm) ?aF ?aO ?aB ?aS ?aL ?_;(case aP => exact Kd.M_row (Kd.R_mono (Kd.R_tight rfl (Kd.R_mono (ok' := fun k_ => ((fun k_ => some k_ ≠ (.slice Ao21 t372.length co21 : Value).ownBlock ∧ some k_ ≠ (.slice (some ad378) t375.length co14 : Value).ownBlock)) k_ ∧ some k_ ≠ (u9 : Value).ownBlock) (Kd.R_apart' (HO382.out) (Kd.S_typed HO_9.out) (by decide)) (fun k_ hk => ⟨⟨hk.1.1.2,hk.1.2⟩,hk.2⟩))) (fun _ h_ => h_)));(case aB => exact (bb HB));(case aF => exact (fun k_ hk => ⟨Kd.fresh' (Kd.R_lt (rr HO_8)) k_ hk,Kd.fresh' (Kd.R_lt (rr HO_41)) k_ hk⟩));(case aO => exact (by (with_reducible repeat (first|apply Kd.S_alloc|apply Kd.S_drewN|apply Kd.S_drew));exact Kd.S_mono HO_9.out (fun k_ hk => ⟨⟨hk.1.1,hk.1.2⟩,fun e_ => hk.2 e_⟩)));(case aS => exact (below_size (bb HB)));(case aL => have := LMc20.out;omega);intro v384 w23 ho hb hg hat;rw [← Ny383.out] at ho;have n0_ := am (Kd.R_over' (rr HO_8) (Kd.S_typed (by (with_reducible repeat (first|apply Kd.S_alloc|apply Kd.S_drewN|apply Kd.S_drew));exact HO_9.out)) (by decide) hg);have n1_ := am (Kd.R_over' (rr HO_41) (Kd.S_typed (by (with_reducible repeat (first|apply Kd.S_alloc|apply Kd.S_drewN|apply Kd.S_drew));exact HO_9.out)) (by decide) hg);have n2_ := am (hb);have n3_ := am (ho);clear HO_8 HO_41 HB HO_9 HO382;have HO_8 := n0_;have HO_41 := n1_;have HB := n2_;have HO385 := n3_;clear n0_ n1_ n2_ n3_;clear ho hb hg hat))
           go_roundg k2
           case measure => have := HJ3.out;have := HK2.out;omega
           case rel => exact ⟨(y383),(wrap64 (x43_2 + 1)),(by first|rfl|(simp;done)|(simp [*];done)),H',⟨by have := HJ3.out;have := HK2.out;omega⟩,⟨by (with_reducible repeat (first|apply Kd.R_alloc|apply Kd.R_drewN|apply Kd.R_drew));exact Kd.R_mono HO_8.out (fun _ hk => hk.1)⟩,⟨by (with_reducible repeat (first|apply Kd.S_alloc|apply Kd.S_drewN|apply Kd.S_drew));exact HO385.out⟩,⟨by (with_reducible repeat (first|apply Kd.R_alloc|apply Kd.R_drewN|apply Kd.R_drew));exact Kd.R_mono HO_41.out (fun _ hk => hk.1)⟩,⟨bb HB⟩⟩
          ·rw [if_neg c20] at H
           exact absurd H (by simp)
         ·rw [if_neg c19] at H
          have c19b0 : (t380 == 0) = false := beq_eq_false_iff_ne.mpr c19
          have c19b1 : (t380 != 0) = true := bne_iff_ne.mpr c19
          simp only [Option.some.injEq,Prod.mk.injEq] at H
          obtain ⟨rfl,rfl⟩ := H
          have p378 : 0 ≤ (x43_2 : Int) := od
          have q378 : x43_2 < (t375.length : Int) := od
          obtain ⟨ad378,e378,hx378_0⟩ := Kd.at_int (Kd.R_reads' HO_41.out).2.2 x43_2 p378 q378
          cases e378
          replace p378 := eq_true p378
          replace q378 := eq_true q378
          obtain ⟨Ao25,co25,eo25⟩ := Kd.R_slice HO_8.out
          subst eo25
          go_wp2_with (first|((with_reducible refine gate_callee (f := 33) rfl ?_);refine goesL_ (some 51) rfl rfl Try.func33 (by kernel_rfl) rfl #[.int .u64 a0,.slice Ao25 t372.length co25,.int .u64 (rd t375 x43_2)] rfl (by (try simp only [List.map_toArray,List.map_cons,List.map_nil]);first|done|rfl|(simp only [List.length_drop,List.length_take];rfl)) ?_;(with_reducible refine (interpolate_LagrangeWeights.calls a0 _ _ t372 (rd t375 x43_2) t379 t380 _ ?side1 ?side2 A18.out).mono ?_);(case side1 => exact cr HO_8);(case side2 => exact (Kd.R_reads' HO_8.out).2.1);rintro e w26 ⟨v381,rfl,ho0,hb⟩;refine ⟨_,rfl,?_⟩;have n0_ := am (Kd.R_elder' (rr HO_8) (Kd.R_base ho0) hb);have n1_ := am (Kd.S_elder' (by (with_reducible repeat (first|apply Kd.S_alloc|apply Kd.S_drewN|apply Kd.S_drew));exact HO_9.out) (Kd.R_base ho0) hb);have n2_ := am (Kd.R_elder' (rr HO_41) (Kd.R_base ho0) hb);have n3_ := am (Kd.R_lower (Kd.R_new' (Kd.R_new' ho0 (Kd.R_lt (rr HO_8))) (Kd.R_lt (rr HO_41))) (below_size (bb HB)));have n4_ := am (below_step (bb HB) hb);clear HO_8 HO_9 HO_41 HB;have HO_8 := n0_;have HO_9 := n1_;have HO_41 := n2_;have HO382 := n3_;have HB := n4_;clear n0_ n1_ n2_ n3_ n4_;(try clear hb);(try clear hb2);(try clear hk);(try clear hi);(try clear ho0)))
          go_ret2
          exact ⟨_,by first|rfl|(simp [errW_none,errW_some] <;> rfl)|(simp [*,errW_none,errW_some] <;> rfl),by first|exact Kd.S_nil _ _ _ _ _|exact Kd.N_nil _ _ _ _ _|exact Kd.V_nil _ _ _ _ _|exact Kd.Q_nil _ _ _ _ _|exact Kd.R_nil _ _ _ _ _,bb HB⟩
        ·rw [if_neg c17] at H
         exact absurd H (by simp)
       ·rw [if_neg c16] at H
        exact absurd H (by simp)
      ·rw [if_neg c15] at H
       have c15b0 : decide (x43_2 < (t375.length : Int)) = false := decide_eq_false c15
       clear c15
       simp only [Option.some.injEq,Prod.mk.injEq] at H
       obtain ⟨rfl,rfl⟩ := H
       go_wp2
       go_ret2
       exact ⟨_,by first|rfl|(simp [errW_none,errW_some] <;> rfl)|(simp [*,errW_none,errW_some] <;> rfl),by (with_reducible repeat (first|apply Kd.S_alloc|apply Kd.S_drewN|apply Kd.S_drew));exact Kd.S_mono HO_9.out (fun _ hk => trivial),bb HB⟩
def privityref05_Same.l0 : Nat → List Int → List Int → Int → Option (Bool)
 | 0,_,_,_ => none
 | k + 1,x0,x1,x5 => if x5 < (x0.length : Int) then (if 0 ≤ x5 then (if x5 < (x1.length : Int) then (if (rd x0 x5) = (rd x1 x5) then (privityref05_Same.l0 k x0 x1 (wrap64 (x5 + 1))) else (some false)) else (none)) else (none)) else (some true)
def privityref05_Same.f (k : Nat) (l0 : List Int) (l1 : List Int) : Option (Bool) := if (l0.length : Int) = (l1.length : Int) then (privityref05_Same.l0 k l0 l1 0) else (some false)
theorem privityref05_Same.mono_l : ∀ k,(∀ y0 y1 y2,LeO (privityref05_Same.l0 k y0 y1 y2) (privityref05_Same.l0 (k + 1) y0 y1 y2))
 | 0 => fun _ _ _ r h => by simp [privityref05_Same.l0] at h
 | k + 1 => by
  have ih0 := privityref05_Same.mono_l k
  ·intro y0 y1 y2
   unfold privityref05_Same.l0
   repeat' first
   | (with_reducible exact ih0 _ _ _)
   | (with_reducible exact LeO.refl _)
   | (with_reducible exact LeO.none _)
   | (with_reducible refine LeO.ite ?_ ?_)
   | (with_reducible refine LeO.bind ?_ (fun _ => ?_))
   | exact ih0 _ _ _
   | exact LeO.none _
   | refine LeO.ite ?_ ?_
   | refine LeO.bind ?_ (fun _ => ?_)
theorem privityref05_Same.mono : ∀ a0 a1 k,LeO (privityref05_Same.f k a0 a1) (privityref05_Same.f (k + 1) a0 a1) := by
 intro a0 a1 k
 have ih0 := privityref05_Same.mono_l k
 unfold privityref05_Same.f
 repeat' first
   | (with_reducible exact ih0 _ _ _)
   | (with_reducible exact LeO.refl _)
   | (with_reducible exact LeO.none _)
   | (with_reducible refine LeO.ite ?_ ?_)
   | (with_reducible refine LeO.bind ?_ (fun _ => ?_))
   | exact ih0 _ _ _
   | exact LeO.none _
   | refine LeO.ite ?_ ?_
   | refine LeO.bind ?_ (fun _ => ?_)
set_option maxHeartbeats 8000000 in
set_option maxRecDepth 100000 in
theorem privityref05_Same.calls (k : Nat) (A0 : Option Addr) (c0 : Nat) (l0 : List Int) (A1 : Option Addr) (c1 : Nat) (l1 : List Int) (r : Bool) (w : World) (hr0 : Kd.C (Kd.int .u64) w A0 l0.length l0) (hc0 : l0.length ≤ c0) (hr1 : Kd.C (Kd.int .u64) w A1 l1.length l1) (hc1 : l1.length ≤ c1) (h : privityref05_Same.f k l0 l1 = some r) :
  Calls Try.prog 24 #[.slice A0 l0.length c0,.slice A1 l1.length c1] w fun e w' => e = .returned (.bool r) ∧ Drawn0 w w' := by
 have HR0 := am hr0
 have HC0 := am hc0
 clear hr0 hc0
 have HR1 := am hr1
 have HC1 := am hc1
 clear hr1 hc1
 have H : (if (l0.length : Int) = (l1.length : Int) then (privityref05_Same.l0 k l0 l1 0) else (some false)) = some r := h
 clear h
 by_cases c3 : (l0.length : Int) = (l1.length : Int)
 ·rw [if_pos c3] at H
  have c3b0 : ((l0.length : Int) == (l1.length : Int)) = true := beq_iff_eq.mpr c3
  have c3b1 : ((l0.length : Int) != (l1.length : Int)) = false := bne_eq_false_iff_eq.mpr c3
  have c3b2 : (l0.length == l1.length) = true := by first|simpa using c3|(simp at c3 ⊢;omega)
  clear c3
  have H' := am H
  clear H
  go_enter Try.func24,Try.ntmps24
  go_wp2
  repeat (go_quiet (fail);try go_wp2)
  go_loopg [5] k (fun kq v5 w' => ∃ (x5_1 : Int),v5 = .int .i64 x5_1 ∧ Aside0 (privityref05_Same.l0 kq l0 l1 x5_1 = some r) ∧ Aside0 (kq ≤ k) ∧ Drawn0 w w')
  case atStart => exact ⟨(0),(by first|rfl|(simp;done)|(simp [*];done)),H',⟨Nat.le_refl _⟩,by repeat (first|exact Drawn0.refl _|apply Drawn0.step)⟩
  case round =>
   clear H'
   try clear c1
   try clear c2
   try clear p2
   try clear c3
   try clear c3b0
   try clear c3b1
   try clear c3b2
   obtain ⟨x5_1,rfl,HA,HK1,⟨m1,rfl⟩⟩ := hrel
   cases gk with
   | zero => exact absurd HA.out (by simp [privityref05_Same.l0])
   | succ k1 =>
    have H := HA.out
    clear HA
    simp only [privityref05_Same.l0] at H
    by_cases c4 : x5_1 < (l0.length : Int)
    ·rw [if_pos c4] at H
     have c4b0 : decide (x5_1 < (l0.length : Int)) = true := decide_eq_true c4
     clear c4
     by_cases c5 : 0 ≤ x5_1
     ·rw [if_pos c5] at H
      have c5b0 : decide (0 ≤ x5_1) = true := decide_eq_true c5
      clear c5
      by_cases c6 : x5_1 < (l1.length : Int)
      ·rw [if_pos c6] at H
       have c6b0 : decide (x5_1 < (l1.length : Int)) = true := decide_eq_true c6
       clear c6
       by_cases c7 : (rd l0 x5_1) = (rd l1 x5_1)
       ·rw [if_pos c7] at H
        have c7b0 : ((rd l0 x5_1) == (rd l1 x5_1)) = true := beq_iff_eq.mpr c7
        have c7b1 : ((rd l0 x5_1) != (rd l1 x5_1)) = false := bne_eq_false_iff_eq.mpr c7
        clear c7
        have H' := am H
        clear H
        have p386 : 0 ≤ (x5_1 : Int) := od
        have q386 : x5_1 < (l0.length : Int) := od
        obtain ⟨ad386,e386,hx386_0⟩ := Kd.at_int HR0.out x5_1 p386 q386
        cases e386
        replace p386 := eq_true p386
        replace q386 := eq_true q386
        have p387 : 0 ≤ (x5_1 : Int) := od
        have q387 : x5_1 < (l1.length : Int) := od
        obtain ⟨ad387,e387,hx387_0⟩ := Kd.at_int HR1.out x5_1 p387 q387
        cases e387
        replace p387 := eq_true p387
        replace q387 := eq_true q387
        go_wp2
        repeat (go_quiet (fail);try go_wp2)
        go_roundg k1
        case measure => have := HK1.out;omega
        case rel => exact ⟨(wrap64 (x5_1 + 1)),(by first|rfl|(simp;done)|(simp [*];done)),H',⟨by have := HK1.out;omega⟩,by repeat (first|exact Drawn0.refl _|apply Drawn0.step)⟩
       ·rw [if_neg c7] at H
        have c7b0 : ((rd l0 x5_1) == (rd l1 x5_1)) = false := beq_eq_false_iff_ne.mpr c7
        have c7b1 : ((rd l0 x5_1) != (rd l1 x5_1)) = true := bne_iff_ne.mpr c7
        obtain rfl := Option.some.inj H
        have p386 : 0 ≤ (x5_1 : Int) := od
        have q386 : x5_1 < (l0.length : Int) := od
        obtain ⟨ad386,e386,hx386_0⟩ := Kd.at_int HR0.out x5_1 p386 q386
        cases e386
        replace p386 := eq_true p386
        replace q386 := eq_true q386
        have p387 : 0 ≤ (x5_1 : Int) := od
        have q387 : x5_1 < (l1.length : Int) := od
        obtain ⟨ad387,e387,hx387_0⟩ := Kd.at_int HR1.out x5_1 p387 q387
        cases e387
        replace p387 := eq_true p387
        replace q387 := eq_true q387
        go_wp2
        repeat (go_quiet (fail);try go_wp2)
        go_ret
        exact ⟨by first|rfl|(simp;done)|(simp [*];done),by repeat (first|exact Drawn0.refl _|apply Drawn0.step)⟩
      ·rw [if_neg c6] at H
       exact absurd H (by simp)
     ·rw [if_neg c5] at H
      exact absurd H (by simp)
    ·rw [if_neg c4] at H
     have c4b0 : decide (x5_1 < (l0.length : Int)) = false := decide_eq_false c4
     clear c4
     obtain rfl := Option.some.inj H
     go_wp2
     repeat (go_quiet (fail);try go_wp2)
     go_ret
     exact ⟨by first|rfl|(simp;done)|(simp [*];done),by repeat (first|exact Drawn0.refl _|apply Drawn0.step)⟩
 ·rw [if_neg c3] at H
  have c3b0 : ((l0.length : Int) == (l1.length : Int)) = false := beq_eq_false_iff_ne.mpr c3
  have c3b1 : ((l0.length : Int) != (l1.length : Int)) = true := bne_iff_ne.mpr c3
  have c3b2 : (l0.length == l1.length) = false := by first|simpa using c3|(simp at c3 ⊢;omega)
  obtain rfl := Option.some.inj H
  go_enter Try.func24,Try.ntmps24
  go_wp2
  repeat (go_quiet (fail);try go_wp2)
  go_ret
  exact ⟨by first|rfl|(simp;done)|(simp [*];done),by repeat (first|exact Drawn0.refl _|apply Drawn0.step)⟩
def privityref05_SameRows.l0 : Nat → List (List Int) → List (List Int) → Int → Option (Bool)
 | 0,_,_,_ => none
 | k + 1,x0,x1,x5 => if x5 < (x0.length : Int) then (if 0 ≤ x5 then (if x5 < (x1.length : Int) then ((privityref05_Same.f k (rd_L2 x0 x5) (rd_L2 x1 x5)).bind fun t390 => (if t390 = true then (privityref05_SameRows.l0 k x0 x1 (wrap64 (x5 + 1))) else (some false))) else (none)) else (none)) else (some true)
def privityref05_SameRows.f (k : Nat) (l0 : List (List Int)) (l1 : List (List Int)) : Option (Bool) := if (l0.length : Int) = (l1.length : Int) then (privityref05_SameRows.l0 k l0 l1 0) else (some false)
theorem privityref05_SameRows.mono_l : ∀ k,(∀ y0 y1 y2,LeO (privityref05_SameRows.l0 k y0 y1 y2) (privityref05_SameRows.l0 (k + 1) y0 y1 y2))
 | 0 => fun _ _ _ r h => by simp [privityref05_SameRows.l0] at h
 | k + 1 => by
  have ih0 := privityref05_SameRows.mono_l k
  ·intro y0 y1 y2
   unfold privityref05_SameRows.l0
   repeat' first
   | (with_reducible exact ih0 _ _ _)
   | (with_reducible exact privityref05_Same.mono _ _ _)
   | (with_reducible exact LeO.refl _)
   | (with_reducible exact LeO.none _)
   | (with_reducible refine LeO.ite ?_ ?_)
   | (with_reducible refine LeO.bind ?_ (fun _ => ?_))
   | exact ih0 _ _ _
   | exact privityref05_Same.mono _ _ _
   | exact LeO.none _
   | refine LeO.ite ?_ ?_
   | refine LeO.bind ?_ (fun _ => ?_)
theorem privityref05_SameRows.mono : ∀ a0 a1 k,LeO (privityref05_SameRows.f k a0 a1) (privityref05_SameRows.f (k + 1) a0 a1) := by
 intro a0 a1 k
 have ih0 := privityref05_SameRows.mono_l k
 unfold privityref05_SameRows.f
 repeat' first
   | (with_reducible exact ih0 _ _ _)
   | (with_reducible exact privityref05_Same.mono _ _ _)
   | (with_reducible exact LeO.refl _)
   | (with_reducible exact LeO.none _)
   | (with_reducible refine LeO.ite ?_ ?_)
   | (with_reducible refine LeO.bind ?_ (fun _ => ?_))
   | exact ih0 _ _ _
   | exact privityref05_Same.mono _ _ _
   | exact LeO.none _
   | refine LeO.ite ?_ ?_
   | refine LeO.bind ?_ (fun _ => ?_)
set_option maxHeartbeats 8000000 in
set_option maxRecDepth 100000 in
theorem privityref05_SameRows.calls (k : Nat) (A0 : Option Addr) (c0 : Nat) (l0 : List (List Int)) (A1 : Option Addr) (c1 : Nat) (l1 : List (List Int)) (r : Bool) (w : World) (hr0 : Kd.C (Kd.slice 22 (Kd.int .u64)) w A0 l0.length l0) (hc0 : l0.length ≤ c0) (hr1 : Kd.C (Kd.slice 22 (Kd.int .u64)) w A1 l1.length l1) (hc1 : l1.length ≤ c1) (h : privityref05_SameRows.f k l0 l1 = some r) :
  Calls Try.prog 16 #[.slice A0 l0.length c0,.slice A1 l1.length c1] w fun e w' => e = .returned (.bool r) ∧ Drawn0 w w' := by
 have HR0 := am hr0
 have HC0 := am hc0
 clear hr0 hc0
 have HR1 := am hr1
 have HC1 := am hc1
 clear hr1 hc1
 have H : (if (l0.length : Int) = (l1.length : Int) then (privityref05_SameRows.l0 k l0 l1 0) else (some false)) = some r := h
 clear h
 by_cases c3 : (l0.length : Int) = (l1.length : Int)
 ·rw [if_pos c3] at H
  have c3b0 : ((l0.length : Int) == (l1.length : Int)) = true := beq_iff_eq.mpr c3
  have c3b1 : ((l0.length : Int) != (l1.length : Int)) = false := bne_eq_false_iff_eq.mpr c3
  have c3b2 : (l0.length == l1.length) = true := by first|simpa using c3|(simp at c3 ⊢;omega)
  clear c3
  have H' := am H
  clear H
  go_enter Try.func16,Try.ntmps16
  go_wp2
  repeat (go_quiet (fail);try go_wp2)
  go_loopg [5] k (fun kq v5 w' => ∃ (x5_1 : Int),v5 = .int .i64 x5_1 ∧ Aside0 (privityref05_SameRows.l0 kq l0 l1 x5_1 = some r) ∧ Aside0 (kq ≤ k) ∧ Drawn0 w w')
  case atStart => exact ⟨(0),(by first|rfl|(simp;done)|(simp [*];done)),H',⟨Nat.le_refl _⟩,by repeat (first|exact Drawn0.refl _|apply Drawn0.step)⟩
  case round =>
   clear H'
   try clear c1
   try clear p2
   try clear c3
   try clear c3b0
   try clear c3b1
   try clear c3b2
   obtain ⟨x5_1,rfl,HA,HK1,⟨m1,rfl⟩⟩ := hrel
   cases gk with
   | zero => exact absurd HA.out (by simp [privityref05_SameRows.l0])
   | succ k1 =>
    have H := HA.out
    clear HA
    simp only [privityref05_SameRows.l0] at H
    by_cases c4 : x5_1 < (l0.length : Int)
    ·rw [if_pos c4] at H
     have c4b0 : decide (x5_1 < (l0.length : Int)) = true := decide_eq_true c4
     clear c4
     by_cases c5 : 0 ≤ x5_1
     ·rw [if_pos c5] at H
      have c5b0 : decide (0 ≤ x5_1) = true := decide_eq_true c5
      clear c5
      by_cases c6 : x5_1 < (l1.length : Int)
      ·rw [if_pos c6] at H
       have c6b0 : decide (x5_1 < (l1.length : Int)) = true := decide_eq_true c6
       clear c6
       replace H := Option.bind_eq_some_iff.mp H
       obtain ⟨t390,A70,H⟩ := H
       try dsimp only at H
       have A7 := am A70
       clear A70
       by_cases c8 : t390 = true
       ·subst c8
        rw [if_pos rfl] at H
        have H' := am H
        clear H
        have p388 : 0 ≤ (x5_1 : Int) := od
        have q388 : x5_1 < (l0.length : Int) := od
        obtain ⟨ad388,A388_0,c388_0,e388,hx388_0,hl388_0,hi388_0⟩ := at_L2 HR0.out x5_1 p388 q388
        cases e388
        have HR388_0 := am hi388_0
        have HC388_0 := am hl388_0
        clear hi388_0 hl388_0
        replace p388 := eq_true p388
        replace q388 := eq_true q388
        have p389 : 0 ≤ (x5_1 : Int) := od
        have q389 : x5_1 < (l1.length : Int) := od
        obtain ⟨ad389,A389_0,c389_0,e389,hx389_0,hl389_0,hi389_0⟩ := at_L2 HR1.out x5_1 p389 q389
        cases e389
        have HR389_0 := am hi389_0
        have HC389_0 := am hl389_0
        clear hi389_0 hl389_0
        replace p389 := eq_true p389
        replace q389 := eq_true q389
        go_wp2_with (first|(go_at_call 24;(with_reducible refine (privityref05_Same.calls k1 _ _ (rd_L2 l0 x5_1) _ _ (rd_L2 l1 x5_1) true _ ?side1 ?side2 ?side3 ?side4 A7.out).mono ?_);(case side1 => repeat (first|exact HR388_0.out|(with_reducible refine Kd.C_alloc ?_ _)|(with_reducible refine Kd.C_drewN ?_ _)|(with_reducible refine Kd.C_drew ?_)));(case side2 => exact HC388_0.out);(case side3 => repeat (first|exact HR389_0.out|(with_reducible refine Kd.C_alloc ?_ _)|(with_reducible refine Kd.C_drewN ?_ _)|(with_reducible refine Kd.C_drew ?_)));(case side4 => exact HC389_0.out);rintro e w' ⟨rfl,⟨nd,rfl⟩⟩;(try first|exact ⟨rfl,_,World.drewN_drewN _ _ _⟩|exact ⟨rfl,_,Eq.trans (World.drewN_drewN _ _ _) (congrArg (World.drewN _) (Nat.add_assoc _ _ _))⟩)))
        repeat (go_quiet (first|(go_at_call 24;(with_reducible refine (privityref05_Same.calls k1 _ _ (rd_L2 l0 x5_1) _ _ (rd_L2 l1 x5_1) true _ ?side1 ?side2 ?side3 ?side4 A7.out).mono ?_);(case side1 => repeat (first|exact HR388_0.out|(with_reducible refine Kd.C_alloc ?_ _)|(with_reducible refine Kd.C_drewN ?_ _)|(with_reducible refine Kd.C_drew ?_)));(case side2 => exact HC388_0.out);(case side3 => repeat (first|exact HR389_0.out|(with_reducible refine Kd.C_alloc ?_ _)|(with_reducible refine Kd.C_drewN ?_ _)|(with_reducible refine Kd.C_drew ?_)));(case side4 => exact HC389_0.out);rintro e w' ⟨rfl,⟨nd,rfl⟩⟩;(try first|exact ⟨rfl,_,World.drewN_drewN _ _ _⟩|exact ⟨rfl,_,Eq.trans (World.drewN_drewN _ _ _) (congrArg (World.drewN _) (Nat.add_assoc _ _ _))⟩)));try go_wp2_with (first|(go_at_call 24;(with_reducible refine (privityref05_Same.calls k1 _ _ (rd_L2 l0 x5_1) _ _ (rd_L2 l1 x5_1) true _ ?side1 ?side2 ?side3 ?side4 A7.out).mono ?_);(case side1 => repeat (first|exact HR388_0.out|(with_reducible refine Kd.C_alloc ?_ _)|(with_reducible refine Kd.C_drewN ?_ _)|(with_reducible refine Kd.C_drew ?_)));(case side2 => exact HC388_0.out);(case side3 => repeat (first|exact HR389_0.out|(with_reducible refine Kd.C_alloc ?_ _)|(with_reducible refine Kd.C_drewN ?_ _)|(with_reducible refine Kd.C_drew ?_)));(case side4 => exact HC389_0.out);rintro e w' ⟨rfl,⟨nd,rfl⟩⟩;(try first|exact ⟨rfl,_,World.drewN_drewN _ _ _⟩|exact ⟨rfl,_,Eq.trans (World.drewN_drewN _ _ _) (congrArg (World.drewN _) (Nat.add_assoc _ _ _))⟩))))
        go_roundg k1
        case measure => have := HK1.out;omega
        case rel => exact ⟨(wrap64 (x5_1 + 1)),(by first|rfl|(simp;done)|(simp [*];done)),H',⟨by have := HK1.out;omega⟩,by repeat (first|exact Drawn0.refl _|apply Drawn0.step)⟩
       ·replace c8 := Bool.eq_false_iff.mpr c8
        subst c8
        rw [if_neg (show ¬ (false = true) by decide)] at H
        obtain rfl := Option.some.inj H
        have p388 : 0 ≤ (x5_1 : Int) := od
        have q388 : x5_1 < (l0.length : Int) := od
        obtain ⟨ad388,A388_0,c388_0,e388,hx388_0,hl388_0,hi388_0⟩ := at_L2 HR0.out x5_1 p388 q388
        cases e388
        have HR388_0 := am hi388_0
        have HC388_0 := am hl388_0
        clear hi388_0 hl388_0
        replace p388 := eq_true p388
        replace q388 := eq_true q388
        have p389 : 0 ≤ (x5_1 : Int) := od
        have q389 : x5_1 < (l1.length : Int) := od
        obtain ⟨ad389,A389_0,c389_0,e389,hx389_0,hl389_0,hi389_0⟩ := at_L2 HR1.out x5_1 p389 q389
        cases e389
        have HR389_0 := am hi389_0
        have HC389_0 := am hl389_0
        clear hi389_0 hl389_0
        replace p389 := eq_true p389
        replace q389 := eq_true q389
        go_wp2_with (first|(go_at_call 24;(with_reducible refine (privityref05_Same.calls k1 _ _ (rd_L2 l0 x5_1) _ _ (rd_L2 l1 x5_1) false _ ?side1 ?side2 ?side3 ?side4 A7.out).mono ?_);(case side1 => repeat (first|exact HR388_0.out|(with_reducible refine Kd.C_alloc ?_ _)|(with_reducible refine Kd.C_drewN ?_ _)|(with_reducible refine Kd.C_drew ?_)));(case side2 => exact HC388_0.out);(case side3 => repeat (first|exact HR389_0.out|(with_reducible refine Kd.C_alloc ?_ _)|(with_reducible refine Kd.C_drewN ?_ _)|(with_reducible refine Kd.C_drew ?_)));(case side4 => exact HC389_0.out);rintro e w' ⟨rfl,⟨nd,rfl⟩⟩;(try first|exact ⟨rfl,_,World.drewN_drewN _ _ _⟩|exact ⟨rfl,_,Eq.trans (World.drewN_drewN _ _ _) (congrArg (World.drewN _) (Nat.add_assoc _ _ _))⟩)))
        repeat (go_quiet (first|(go_at_call 24;(with_reducible refine (privityref05_Same.calls k1 _ _ (rd_L2 l0 x5_1) _ _ (rd_L2 l1 x5_1) false _ ?side1 ?side2 ?side3 ?side4 A7.out).mono ?_);(case side1 => repeat (first|exact HR388_0.out|(with_reducible refine Kd.C_alloc ?_ _)|(with_reducible refine Kd.C_drewN ?_ _)|(with_reducible refine Kd.C_drew ?_)));(case side2 => exact HC388_0.out);(case side3 => repeat (first|exact HR389_0.out|(with_reducible refine Kd.C_alloc ?_ _)|(with_reducible refine Kd.C_drewN ?_ _)|(with_reducible refine Kd.C_drew ?_)));(case side4 => exact HC389_0.out);rintro e w' ⟨rfl,⟨nd,rfl⟩⟩;(try first|exact ⟨rfl,_,World.drewN_drewN _ _ _⟩|exact ⟨rfl,_,Eq.trans (World.drewN_drewN _ _ _) (congrArg (World.drewN _) (Nat.add_assoc _ _ _))⟩)));try go_wp2_with (first|(go_at_call 24;(with_reducible refine (privityref05_Same.calls k1 _ _ (rd_L2 l0 x5_1) _ _ (rd_L2 l1 x5_1) false _ ?side1 ?side2 ?side3 ?side4 A7.out).mono ?_);(case side1 => repeat (first|exact HR388_0.out|(with_reducible refine Kd.C_alloc ?_ _)|(with_reducible refine Kd.C_drewN ?_ _)|(with_reducible refine Kd.C_drew ?_)));(case side2 => exact HC388_0.out);(case side3 => repeat (first|exact HR389_0.out|(with_reducible refine Kd.C_alloc ?_ _)|(with_reducible refine Kd.C_drewN ?_ _)|(with_reducible refine Kd.C_drew ?_)));(case side4 => exact HC389_0.out);rintro e w' ⟨rfl,⟨nd,rfl⟩⟩;(try first|exact ⟨rfl,_,World.drewN_drewN _ _ _⟩|exact ⟨rfl,_,Eq.trans (World.drewN_drewN _ _ _) (congrArg (World.drewN _) (Nat.add_assoc _ _ _))⟩))))
        go_ret
        exact ⟨by first|rfl|(simp;done)|(simp [*];done),by repeat (first|exact Drawn0.refl _|apply Drawn0.step)⟩
      ·rw [if_neg c6] at H
       exact absurd H (by simp)
     ·rw [if_neg c5] at H
      exact absurd H (by simp)
    ·rw [if_neg c4] at H
     have c4b0 : decide (x5_1 < (l0.length : Int)) = false := decide_eq_false c4
     clear c4
     obtain rfl := Option.some.inj H
     go_wp2
     repeat (go_quiet (fail);try go_wp2)
     go_ret
     exact ⟨by first|rfl|(simp;done)|(simp [*];done),by repeat (first|exact Drawn0.refl _|apply Drawn0.step)⟩
 ·rw [if_neg c3] at H
  have c3b0 : ((l0.length : Int) == (l1.length : Int)) = false := beq_eq_false_iff_ne.mpr c3
  have c3b1 : ((l0.length : Int) != (l1.length : Int)) = true := bne_iff_ne.mpr c3
  have c3b2 : (l0.length == l1.length) = false := by first|simpa using c3|(simp at c3 ⊢;omega)
  obtain rfl := Option.some.inj H
  go_enter Try.func16,Try.ntmps16
  go_wp2
  repeat (go_quiet (fail);try go_wp2)
  go_ret
  exact ⟨by first|rfl|(simp;done)|(simp [*];done),by repeat (first|exact Drawn0.refl _|apply Drawn0.step)⟩
end Go.Proofs.Ytmdoaijkaaaglaa.Pr
end
