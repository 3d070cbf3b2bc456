/- Part 6 of the proof's texts, joined in build order. -/
import Derived.Test.YtjnkkfdlcbcelaaZISL5
import Derived.ArgAppend
import Derived.Test.YtjnkkfdlcbcelaaZISL0
import Derived.Test.YtjnkkfdlcbcelaaZISL1
set_option linter.unusedVariables false
set_option linter.unusedSimpArgs false
section
namespace Go.Proofs.Ytjnkkfdlcbcelaa.Hw
open Go.RowKit Go.Proofs.Ytjnkkfdlcbcelaa.Pr Go.Proofs.YtjnkkfdlcbcelaaW.PrintWords Go.Proofs.YtjnkkfdlcbcelaaW.PrintLast Go.Proofs.YtjnkkfdlcbcelaaW.PrintMore Go.Proofs.Ytjnkkfdlcbcelaa.E
def fitRun (t : Nat) : Nat → List S49 → Int → List S49
 | 0,all,_ => all
 | k + 1,all,x => if all.length ≤ t then (if x ∈ xsOf all then fitRun t k all (x + 1) else fitRun t k (all ++ [⟨x,0⟩]) (x + 1)) else all
def fitAll (p : Int) (t : Nat) (pts : List S49) (s : Int) : List S49 := fitRun t (t + 1) (⟨0,s⟩ :: pts) 1
def fitL (p : Int) (t : Nat) (pts : List S49) (s : Int) : List Int := polL p (fitAll p t pts s) ++ List.replicate (t + 1 - (polL p (fitAll p t pts s)).length) 0
structure FitI (p : Int) (t : Nat) (all : List S49) (x : Nat) : Prop where
 ok : PtsOk p all
 nd : (xsOf all).Nodup
 hd : ∃ m,xsOf all = 0 :: m
 len : all.length ≤ t + 1
 cov : ∀ y : Nat,y < x → (y : Int) ∈ xsOf all
theorem sub_len : ∀ (l m : List Int),l.Nodup → (∀ x ∈ l,x ∈ m) → l.length ≤ m.length
 | [],m,_,_ => Nat.zero_le _
 | a :: l,m,hn,h => by
  have hn' := List.nodup_cons.1 hn
  have ha := h a (by simp)
  have h1 := sub_len l (m.erase a) hn'.2 (fun x hx => (List.mem_erase_of_ne (fun e => hn'.1 (by rw [← e];exact hx))).2 (h x (List.mem_cons_of_mem _ hx)))
  rw [List.length_erase_of_mem ha] at h1
  have := List.length_pos_of_mem ha
  simp only [List.length_cons];omega
theorem nat_list_nodup (x : Nat) : ((List.range x).map fun (i : Nat) => (i : Int)).Nodup := by
 refine List.Pairwise.map _ (fun a b h => ?_) (List.nodup_range (n := x))
 intro e;exact h (by omega)
theorem FitI.xlen {p : Int} {t : Nat} {all : List S49} {x : Nat} (h : FitI p t all x) : x ≤ all.length := by
 have := sub_len ((List.range x).map fun (i : Nat) => (i : Int)) (xsOf all) (nat_list_nodup x) (fun y hy => by
  obtain ⟨i,hi,rfl⟩ := List.mem_map.1 hy
  exact h.cov i (List.mem_range.1 hi))
 simpa [xsOf] using this
theorem fit_start {p : Int} (hp : Supp p) {t : Nat} {pts : List S49} (hx : PtsOk p pts) (hnd : (0 :: xsOf pts).Nodup) (hl : pts.length ≤ t) {s : Int} (hs : Res p s) : FitI p t ([(⟨0,s⟩ : S49)] ++ pts) 1 := by
 have hb := hp.bd
 have e : xsOf ([(⟨0,s⟩ : S49)] ++ pts) = 0 :: xsOf pts := rfl
 refine ⟨fun y hy => ?_,by rw [e];exact hnd,⟨_,e⟩,by simp;omega,fun y hy => ?_⟩
 ·rcases List.mem_append.1 hy with h|h
  ·simp only [List.mem_cons,List.not_mem_nil,or_false] at h
   rw [h];exact ⟨⟨Int.le_refl 0,by show (0 : Int) < p;omega⟩,hs⟩
  ·exact hx y h
 ·rw [e,show y = 0 from by omega];simp
theorem FitI.skip {p : Int} {t : Nat} {all : List S49} {x : Nat} (h : FitI p t all x) (hx : (x : Int) ∈ xsOf all) : FitI p t all (x + 1) :=
 ⟨h.ok,h.nd,h.hd,h.len,fun y hy => by
  by_cases e : y = x
  ·rw [e];exact hx
  ·exact h.cov y (by omega)⟩
theorem FitI.add {p : Int} (hp : Supp p) {t : Nat} {all : List S49} {x : Nat} (h : FitI p t all x) (hx : (x : Int) ∉ xsOf all) (hlt : all.length ≤ t) (htp : (t : Int) < p) : FitI p t (all ++ [(⟨(x : Int),0⟩ : S49)]) (x + 1) := by
 have hb := hp.bd
 have hxl := h.xlen
 have e : xsOf (all ++ [(⟨(x : Int),0⟩ : S49)]) = xsOf all ++ [(x : Int)] := by simp [xsOf]
 obtain ⟨m,hm⟩ := h.hd
 refine ⟨fun y hy => ?_,?_,⟨m ++ [(x : Int)],by rw [e,hm];rfl⟩,by simp;omega,fun y hy => ?_⟩
 ·rcases List.mem_append.1 hy with h1|h1
  ·exact h.ok y h1
  ·simp only [List.mem_cons,List.not_mem_nil,or_false] at h1
   rw [h1];exact ⟨⟨by show (0 : Int) ≤ x;omega,by show (x : Int) < p;omega⟩,⟨Int.le_refl 0,by show (0 : Int) < p;omega⟩⟩
 ·rw [e];exact List.nodup_append.2 ⟨h.nd,by simp,fun a ha b hb e => by simp only [List.mem_cons,List.not_mem_nil,or_false] at hb;subst hb;subst e;exact hx ha⟩
 ·rw [e]
  by_cases e2 : y = x
  ·rw [e2];simp
  ·exact List.mem_append_left _ (h.cov y (by omega))
theorem C_of_owns {w : World} {base : Nat} {v : Value} {L : List S49} {inner : List Value} (h : w.ownsRow base 49 2 v L.length inner) (hr : Reps (fun (x : S49) cs => cs = [.int .u64 x.f0,.int .u64 x.f1]) 2 L inner) (hn : 0 < L.length) (hm : L.length ≤ 9223372036854775807) :
  ∃ A c,v = .slice A L.length c ∧ L.length ≤ c ∧ Kd.C k49 w A L.length L := by
 rcases h.2 with ⟨_,h0⟩|⟨g,cap,cur,rfl,_,hh,hcap,_,hcs,htk⟩
 ·omega
 ·refine ⟨some ⟨g,0,none⟩,cap,rfl,hcap,rfl,hm,fun _ => ⟨⟨g,0,none⟩,rfl,fun j x hj => ?_⟩⟩
  have hj' := hr.2 j x hj
  refine ⟨[.int .u64 x.f0,.int .u64 x.f1],rfl,k49_mk _ _,fun i u hu => ?_⟩
  rw [← hj',List.getElem?_take] at hu
  split at hu
  ·rw [List.getElem?_drop] at hu
   exact h.cells (by simp [Value.ownBlock]) _ u hu
  ·cases hu
section
variable {ops : Array Oper} {rest : List Oper} {o : Oper} {a : Act} {Q : Exit → Act → World → Prop}
theorem wp_append_pt {W : World} (hgd : o.guard = none) (s x : Operand) (ho : o.op = .call { callee := .builtin .append,args := #[s,x],argTypes := #[47,47] }) {A : Option Addr} {L : List S49} {X Y : Int}
  (hs : a.eval s = .slice A L.length L.length) (hx : a.eval x = .slice (some ⟨W.heap.size,0,none⟩) 1 1) (hC : Kd.C k49 W A L.length L) (hn : 0 < L.length) (hl : L.length ≤ 1000000)
  (h : ∀ v1 w1,(∃ A' c',v1 = .slice A' (L ++ [(⟨X,Y⟩ : S49)]).length c' ∧ (L ++ [(⟨X,Y⟩ : S49)]).length ≤ c' ∧ Kd.C k49 w1 A' (L ++ [(⟨X,Y⟩ : S49)]).length (L ++ [(⟨X,Y⟩ : S49)])) → Below W.heap.size W w1 → wpList Try.prog ops Q rest (a.put o.dst v1) w1) :
  wpList Try.prog ops Q (o :: rest) a (W.alloc (.cells #[.int .u64 X,.int .u64 Y] 49)) := by
 obtain ⟨i0,hi,hzz⟩ := Option.map_eq_some_iff.1 info49
 simp only [Prod.mk.injEq] at hzz
 obtain ⟨hz0,hz1,hz2⟩ := hzz
 obtain ⟨ad,rfl,_⟩ := hC.2.2 hn
 obtain ⟨inner,hr,hc⟩ := ReadsRow.inner_ (Kd.C_alloc hC (.cells #[.int .u64 X,.int .u64 Y] 49))
 have hil : inner.length = L.length * 2 := hr.1
 refine wpList_append_grows _ hgd s x 47 ho 49 i0 _ 2 16 Try.underlying47 hi hz0 hz1 hz2 rfl (by decide) (some ad) L.length L.length inner hs (fun e => by cases e) hil (fun b e j u hu => by cases e;exact hc j u hu)
  ⟨W.heap.size,0,none⟩ 1 1 [.int .u64 X,.int .u64 Y] hx rfl (World.news_of_block (cs := #[.int .u64 X,.int .u64 Y]) (t := 49) (fr := (0,0)) (heap_alloc_new W _)) (by intro u hu;simp only [List.mem_cons,List.not_mem_nil,or_false] at hu;rcases hu with rfl|rfl <;> rfl) (by omega) (by simp only [maxLen];omega) (by omega) ?_
 intro v1 w1 hown hg
 refine h v1 w1 ?_ ?_
 ·have hR : Reps (fun (x : S49) cs => cs = [.int .u64 x.f0,.int .u64 x.f1]) 2 (L ++ [(⟨X,Y⟩ : S49)]) (inner ++ [.int .u64 X,.int .u64 Y]) := by
   refine ⟨by simp [hil];omega,fun j p hj => ?_⟩
   by_cases hlt : j < L.length
   ·rw [List.getElem?_append_left hlt] at hj
    have h1 := k49_open (hr.2 j p hj)
    rw [← h1,List.drop_append_of_le_length (by omega),List.take_append_of_le_length (by simp;omega)]
    rfl
   ·have hjl := (List.getElem?_eq_some_iff.1 hj).1
    have : j = L.length := by simp at hjl;omega
    subst this
    rw [List.getElem?_append_right (Nat.le_refl _),Nat.sub_self] at hj
    simp only [List.getElem?_cons_zero,Option.some.injEq] at hj
    rw [← hj,← hil,List.drop_left];rfl
  have hlen : (L ++ [(⟨X,Y⟩ : S49)]).length = L.length + 1 := by simp
  refine C_of_owns (inner := inner ++ [.int .u64 X,.int .u64 Y]) (base := (W.alloc (.cells #[.int .u64 X,.int .u64 Y] 49)).heap.size) ?_ hR (by omega) (by omega)
  rw [hlen];exact hown
 ·exact (below_alloc (Below.refl _ _) _).grown hg (by show _ ≤ (Array.push _ _).size;rw [Array.size_push];omega) (fun k hk => by cases hk)
end
theorem fit_probe {p : Int} {t : Nat} {all : List S49} {x : Nat} (hI : FitI p t all x) (hlt : all.length ≤ t) (ht : t ≤ 48) {A5 : Option Addr} {c5 : Nat} {w5 : World} (hC : Kd.C k49 w5 A5 (all ++ [(⟨(x : Int),0⟩ : S49)]).length (all ++ [(⟨(x : Int),0⟩ : S49)])) (hc : (all ++ [(⟨(x : Int),0⟩ : S49)]).length ≤ c5) (b : Bool) (hb : decide ((x : Int) ∉ xsOf all) = b) :
  Calls Try.prog 38 #[.slice (Option.map (fun a => { block := a.block,off := a.off + 2 }) A5) all.length (c5 - 1)] w5 fun e w' => e = .returned (.bool b) ∧ Below w5.heap.size w5 w' := by
 have hx : (xsOf all).length = all.length := by simp [xsOf]
 obtain ⟨m,hm⟩ := hI.hd
 have hpos : 0 < all.length := by rw [hm] at hx;simp at hx;omega
 have hl : (all ++ [(⟨(x : Int),0⟩ : S49)]).length = all.length + 1 := by simp
 obtain ⟨M,hM⟩ : ∃ M,M = (all ++ [(⟨(x : Int),0⟩ : S49)]).drop 1 := ⟨_,rfl⟩
 have hML : M.length = all.length := by rw [hM,List.length_drop,hl];omega
 have hC2 := Kd.C_drop (m := 1) (c := c5) hC (by omega) hc
 rw [if_neg (by omega),← hM] at hC2
 have hA : Option.map (fun a => a.add (1 * (k49).sz)) A5 = Option.map (fun a => { block := a.block,off := a.off + 2 }) A5 := by cases A5 <;> rfl
 rw [hA] at hC2
 have h := placed_walk (Option.map (fun a => { block := a.block,off := a.off + 2 }) A5) (c5 - 1) M (by omega) w5 hC2 (by omega)
 have hxs : 0 :: xsOf M = xsOf all ++ [(x : Int)] := by
  have e1 : xsOf (all ++ [(⟨(x : Int),0⟩ : S49)]) = xsOf all ++ [(x : Int)] := by simp [xsOf]
  have e2 : xsOf M = (xsOf all ++ [(x : Int)]).drop 1 := by rw [← e1,hM];unfold xsOf;rw [List.map_drop]
  rw [e2,hm];rfl
 rw [hxs,hML] at h
 have hd : decide (xsOf all ++ [(x : Int)]).Nodup = decide ((x : Int) ∉ xsOf all) := by
  refine decide_eq_decide.2 ⟨fun hn hx => (List.nodup_append.1 hn).2.2 _ hx _ (by simp) rfl,fun hn => List.nodup_append.2 ⟨hI.nd,by simp,fun a ha b hb e => by simp only [List.mem_cons,List.not_mem_nil,or_false] at hb;subst hb;subst e;exact hn ha⟩⟩
 rw [hd,hb] at h
 exact h
set_option maxHeartbeats 2000000 in
set_option maxRecDepth 100000 in
theorem fit_walk {p : Int} (hp : Supp p) (t : Nat) (ht : t ≤ 48) (htp : (t : Int) < p) (A : Option Addr) (c : Nat) (pts : List S49) (hx : PtsOk p pts) (hnd : (0 :: xsOf pts).Nodup) (hl : pts.length ≤ t) (s : Int) (hs : Res p s) (w : World) (hr : Kd.C k49 w A pts.length pts) (hc : pts.length ≤ c) :
  Calls Try.prog 29 #[.int .u64 p,.int .i64 (t : Int),.slice A pts.length c,.int .u64 s] w fun e w' => ∃ v0_ : Value,e = .returned (.tuple #[v0_,.int .i64 0]) ∧ Kd.R (Kd.int .u64) 22 w' w.heap.size (fun _ => True) v0_ (fitL p t pts s) ∧ Below w.heap.size w w' := by
 have hpb := hp.bd
 have HP := Aside0.mk (placed_walk A c pts (by omega) w hr hc)
 have hd0 : decide (0 :: xsOf pts).Nodup = true := decide_eq_true hnd
 rw [hd0] at HP
 have HX := Aside0.mk hx
 have HND := Aside0.mk hnd
 have HR := Aside0.mk hr
 have g1 : decide ((t : Int) < 0) = false := decide_eq_false (by omega)
 have g2 : decide ((t : Int) < (pts.length : Int)) = false := decide_eq_false (by omega)
 have g3 : IntKind.u64.wrap (t : Int) = (t : Int) := wrapU_id (by omega) (by omega)
 have g4 : decide (p ≤ (t : Int)) = false := decide_eq_false (by omega)
 clear hx hnd hr hd0
 go_enter Try.func29,Try.ntmps29
 go_wp2_with (first
  | (go_at_call 38;(with_reducible refine HP.out.mono ?_);rintro e w1 ⟨rfl,hb1⟩;have HB1 := Aside0.mk hb1;clear hb1)
  | ((with_reducible refine gate_dst (N := 36) rfl ?_);(try (refine gate_guard (by rfl) ?_;dsimp only));refine Kd.R_lit k49 _ 49 ?hg (N := 36) ?hd (xs := ([(⟨0,s⟩ : S49)] : List (S49))) (inner := [.int .u64 0,.int .u64 s]) (ok := fun _ => True) (okp := fun _ => True) ?hr ?hp (fun _ hk => hk) trivial (Below.refl _ _) (Nat.le_refl _) (by simp) ?_;(case hd => rfl);(case hg => rfl);(case hr => first|(go_simp;done)|(go_simp;rfl));(case hp => exact (Reps.c2 (show Kd.M k49 _ _ _ (⟨0,s⟩ : S49) [.int .u64 0,.int .u64 s] from (k49_mkM _ _ _ (⟨0,s⟩ : S49) )) (Reps.none _ _)));intro v2 w2 ho2 hb2 hg2 hn2;have HO2 := Aside0.mk (Kd.R_lower ho2 (below_size HB1.out));have HB2 := Aside0.mk (below_step HB1.out hb2);clear ho2 hb2 hg2 hn2)
  | ((with_reducible refine gate_builtin (b := .append) (xs := #[.tmp 36,.tmp 37]) rfl ?_);at_builtin;refine Kd.R_append_rows k49 (w0 := w) w.heap.size rfl (.tmp 36) (.tmp 37) 47 49 (.agg #[(.int .u64 0),(.int .u64 0)]) 16 rfl Try.underlying47 info49 rfl (by decide) (by omega) v2 [(⟨0,s⟩ : S49)] pts A _ _ (fun _ => True) (fun _ => False) rfl rfl HO2.out (Kd.C_below HR.out HB2.out) (fun x cs hk => by rw [k49_open hk];exact k49_mkM _ _ _ _) (fun _ h => h.elim) (fun _ _ => trivial) HB2.out (below_size HB2.out) (by simp;omega) ?_;intro v3 w3 ho3 hb3 hg3 ha3;have HO3 := Aside0.mk ho3;have HB3 := Aside0.mk hb3;clear ho3 hb3 hg3 ha3))
 clear HO2 HB2 HB1
 obtain ⟨A3,c3,e3,hc3,hC3⟩ := Kd.R_reads HO3.out
 cases e3
 have HC3 := Aside0.mk hC3
 have HI0 := Aside0.mk (fit_start hp HX.out HND.out hl hs)
 clear hC3 HO3
 go_loopg [10,11] (t + 1) (fun kq v10 v11 w' => ∃ (all : List S49) (x : Nat) (A' : Option Addr) (c' : Nat),v10 = .slice A' all.length c' ∧ v11 = .int .u64 (x : Int) ∧ Aside0 (all.length ≤ c' ∧ Kd.C k49 w' A' all.length all) ∧ Aside0 (FitI p t all x) ∧ Aside0 (kq + x = t + 2) ∧ Aside0 (fitRun t kq all x = fitAll p t pts s) ∧ Aside0 (Below w.heap.size w w'))
 case atStart => exact ⟨_,1,_,_,rfl,rfl,⟨hc3,HC3.out⟩,HI0,⟨by omega⟩,⟨rfl⟩,HB3⟩
 case round =>
  clear HC3 HI0 HB3
  obtain ⟨all,x,A',c',rfl,rfl,HC,HI,HK,HF,HB⟩ := hrel
  by_cases hlt : all.length ≤ t
  ·have q1 : ((all.length : Int) ≤ (t : Int)) = True := eq_true (by omega)
   have q2 : (0 : Int) ≤ (all.length : Int) := by omega
   obtain ⟨hcl,hCC⟩ := HC.out
   have hpos : 0 < all.length := by
    obtain ⟨m,e⟩ := HI.out.hd
    have : (xsOf all).length = all.length := by simp [xsOf]
    rw [e] at this;simp at this;omega
   obtain ⟨ad,e1,_⟩ := hCC.2.2 hpos
   cases e1
   have q3 : ((all.length : Int) ≤ (c' : Int)) = True := eq_true (by omega)
   have HCC := Aside0.mk hCC
   clear hCC
   have hxl := HI.out.xlen
   have hw : IntKind.u64.wrap ((x : Int) + 1) = ((x + 1 : Nat) : Int) := by rw [wrapU_id (by omega) (by omega)];omega
   obtain ⟨g,rfl⟩ : ∃ g,gk = g + 1 := ⟨gk - 1,by have := HK.out;omega⟩
   have hf := HF.out
   rw [fitRun,if_pos hlt] at hf
   by_cases hxm : (x : Int) ∈ xsOf all
   ·have hd1 : decide ((x : Int) ∉ xsOf all) = false := decide_eq_false (fun h => h hxm)
    rw [if_pos hxm] at hf
    have HF2 := Aside0.mk hf
    have HI2 := Aside0.mk (HI.out.skip hxm)
    have HD1 := Aside0.mk hd1
    clear hxm hf hd1
    go_wp2_with (first
     | ((with_reducible refine gate_builtin (b := .append) (xs := #[.tmp 50,.tmp 53]) rfl ?_);at_builtin;refine wp_append_pt rfl (.tmp 50) (.tmp 53) rfl (A := some ad) (L := all) (X := x) (Y := 0) rfl rfl HCC.out hpos (by omega) ?_;rintro v5 w5 ⟨A5,c5,rfl,hc5,hC5⟩ hb5;have hpl := fit_probe HI.out hlt ht hC5 hc5 _ HD1.out;have q5 : (c5 = 1) = False := eq_false (by have h5 := hc5;rw [List.length_append] at h5;simp only [List.length_cons,List.length_nil] at h5;omega);have HB5 := Aside0.mk hb5;have HPl := Aside0.mk hpl;clear hC5 hb5 hc5 hpl)
     | (go_at_call 38;(with_reducible refine HPl.out.mono ?_);rintro e w6 ⟨rfl,hb6⟩;have HB6 := Aside0.mk (below_step HB5.out hb6);clear hb6))
    go_roundg g
    case measure => omega
    case rel => exact ⟨all,x + 1,some ad,c',rfl,by rw [Int.natCast_add] <;> rfl,⟨hcl,Kd.C_below HCC.out HB6.out⟩,HI2,⟨by have := HK.out;omega⟩,⟨by rw [← HF2.out];congr 1⟩,⟨below_step HB.out HB6.out⟩⟩
   ·have hd1 : decide ((x : Int) ∉ xsOf all) = true := decide_eq_true hxm
    rw [if_neg hxm] at hf
    have HF2 := Aside0.mk hf
    have HI2 := Aside0.mk (HI.out.add hp hxm hlt htp)
    have HD1 := Aside0.mk hd1
    clear hxm hf hd1
    go_wp2_with (first
     | ((with_reducible refine gate_builtin (b := .append) (xs := #[.tmp 50,.tmp 53]) rfl ?_);at_builtin;refine wp_append_pt rfl (.tmp 50) (.tmp 53) rfl (A := some ad) (L := all) (X := x) (Y := 0) rfl rfl HCC.out hpos (by omega) ?_;rintro v5 w5 ⟨A5,c5,rfl,hc5,hC5⟩ hb5;have hpl := fit_probe HI.out hlt ht hC5 hc5 _ HD1.out;have q5 : (c5 = 1) = False := eq_false (by have h5 := hc5;rw [List.length_append] at h5;simp only [List.length_cons,List.length_nil] at h5;omega);have HC5 := Aside0.mk (And.intro hc5 hC5);have HB5 := Aside0.mk hb5;have HPl := Aside0.mk hpl;clear hC5 hb5 hc5 hpl)
     | (go_at_call 38;(with_reducible refine HPl.out.mono ?_);rintro e w6 ⟨rfl,hb6⟩;have HB6 := Aside0.mk (below_step HB5.out hb6);have HC6 := Aside0.mk (And.intro HC5.out.1 (Kd.C_below HC5.out.2 hb6));clear hb6))
    go_roundg g
    case measure => omega
    case rel => exact ⟨all ++ [(⟨(x : Int),0⟩ : S49)],x + 1,A5,c5,by simp,by rw [Int.natCast_add] <;> rfl,HC6,HI2,⟨by have := HK.out;omega⟩,⟨by rw [← HF2.out];congr 1⟩,⟨below_step HB.out HB6.out⟩⟩
  ·have q1 : decide ((all.length : Int) ≤ (t : Int)) = false := decide_eq_false (by omega)
   have hal : all.length = t + 1 := by have := HI.out.len;omega
   have hall : all = fitAll p t pts s := by
    rw [← HF.out]
    cases gk with
    | zero => rfl
    | succ g => rw [fitRun,if_neg hlt]
   have hpf : interpolate_Polynomial.f p all = some (polL p all,0) := by
    unfold interpolate_Polynomial.f
    rw [if_pos (supB_iff.2 hp),if_pos (ptsB_iff.2 HI.out.ok),if_pos (by omega),if_pos HI.out.nd,if_pos HI.out.nd]
   have hP := interpolate_Polynomial.calls p A' c' all (polL p all) 0 wr HC.out.2 HC.out.1 hpf
   have hpl : (polL p all).length ≤ t + 1 := by have := polL_len hp (pts := all);omega
   obtain ⟨f,hf⟩ : ∃ f,f = polL p all := ⟨_,rfl⟩
   rw [← hf] at hP hpl
   have HP2 := Aside0.mk hP
   have HFin := Aside0.mk (show fitL p t pts s = f ++ List.replicate (t + 1 - f.length) 0 from by unfold fitL;rw [← hall,← hf])
   have HAL := Aside0.mk hal
   clear hP hall hpf hf HF hal
   go_wp2_with (first
    | (go_at_call 39;(with_reducible refine HP2.out.mono ?_);rintro e w4 ⟨v4,rfl,ho4,hb4⟩;have HO4 := Aside0.mk (Kd.R_lower ho4 (below_size HB.out));have HB4 := Aside0.mk (below_step HB.out hb4);clear ho4 hb4;obtain ⟨A4,c4,e4⟩ := Kd.R_slice HO4.out;subst e4)
    | ((with_reducible refine gate_builtin (b := .append) (xs := #[.tmp 68,.tmp 73]) rfl ?_);at_builtin;refine Kd.R_append_zeros (Kd.int .u64) (w0 := w) w.heap.size rfl (.tmp 68) (.tmp 73) 41 3 22 (.int .u64 0) 8 rfl Try.underlying41 (k := .i64) Try.underlying3 info22 rfl (by decide) (by omega) (.slice A4 f.length c4) f (0 : Int) (kx := .i64) ((t : Int) + 1 - (f.length : Int)) (fun _ => True) rfl rfl rfl (fun _ _ => trivial) HO4.out (by omega) HB4.out (below_size HB4.out) (by omega) ?_;intro v6 w6 ho6 hb6 hg6 ha6;have HO6 := Aside0.mk ho6;have HB6 := Aside0.mk hb6;clear ho6 hb6 hg6 ha6))
   first|go_ret2|((try simp only [Exit.inBlock,Exit.then]);refine bodyPost_ret (results_tmp2 rfl _ _ _) rfl ?_)
   refine ⟨_,rfl,?_,HB6.out⟩
   rw [HFin.out,show t + 1 - f.length = ((t : Int) + 1 - (f.length : Int)).toNat from by omega]
   exact HO6.out
set_option maxHeartbeats 2000000 in
set_option maxRecDepth 100000 in
theorem fit_err {p : Int} (t : Int) (t0 : -9223372036854775808 ≤ t) (t1 : t < 9223372036854775808) (A : Option Addr) (c : Nat) (pts : List S49) (hlp : pts.length ≤ 1000000) (s : Int) (w : World) (hr : Kd.C k49 w A pts.length pts) (hc : pts.length ≤ c)
  (hbad : t < 0 ∨ ¬ (0 :: xsOf pts).Nodup ∨ t < (pts.length : Int) ∨ p ≤ t) :
  Calls Try.prog 29 #[.int .u64 p,.int .i64 t,.slice A pts.length c,.int .u64 s] w fun e w' => ∃ v0_ : Value,e = .returned (.tuple #[v0_,.int .i64 1]) ∧ Kd.R (Kd.int .u64) 22 w' w.heap.size (fun _ => True) v0_ [] ∧ Below w.heap.size w w' := by
 have HP := Aside0.mk (placed_walk A c pts (by omega) w hr hc)
 by_cases h1 : t < 0
 ·have g1 : decide (t < 0) = true := decide_eq_true h1
  clear hbad
  go_enter Try.func29,Try.ntmps29
  go_wp2
  first|go_ret2|((try simp only [Exit.inBlock,Exit.then]);refine bodyPost_ret (results_tmp2 rfl _ _ _) rfl ?_)
  exact ⟨_,rfl,Kd.R_nil _ _ _ _ _,Below.refl _ _⟩
 ·have g1 : decide (t < 0) = false := decide_eq_false h1
  by_cases h2 : (0 :: xsOf pts).Nodup
  ·have hd : decide (0 :: xsOf pts).Nodup = true := decide_eq_true h2
   rw [hd] at HP
   by_cases h3 : t < (pts.length : Int)
   ·have g3 : decide (t < (pts.length : Int)) = true := decide_eq_true h3
    clear hbad h2 hd
    go_enter Try.func29,Try.ntmps29
    go_wp2_with (first|(go_at_call 38;(with_reducible refine HP.out.mono ?_);rintro e w1 ⟨rfl,hb1⟩;have HB1 := Aside0.mk hb1;clear hb1))
    first|go_ret2|((try simp only [Exit.inBlock,Exit.then]);refine bodyPost_ret (results_tmp2 rfl _ _ _) rfl ?_)
    exact ⟨_,rfl,Kd.R_nil _ _ _ _ _,HB1.out⟩
   ·have g3 : decide (t < (pts.length : Int)) = false := decide_eq_false h3
    have h4 : p ≤ t := by
     rcases hbad with h|h|h|h
     ·exact absurd h h1
     ·exact absurd h2 h
     ·exact absurd h h3
     ·exact h
    have g4 : IntKind.u64.wrap t = t := wrapU_id (by omega) (by omega)
    have g5 : decide (p ≤ t) = true := decide_eq_true h4
    clear hbad h2 hd
    go_enter Try.func29,Try.ntmps29
    go_wp2_with (first|(go_at_call 38;(with_reducible refine HP.out.mono ?_);rintro e w1 ⟨rfl,hb1⟩;have HB1 := Aside0.mk hb1;clear hb1))
    first|go_ret2|((try simp only [Exit.inBlock,Exit.then]);refine bodyPost_ret (results_tmp2 rfl _ _ _) rfl ?_)
    exact ⟨_,rfl,Kd.R_nil _ _ _ _ _,HB1.out⟩
  ·have hd : decide (0 :: xsOf pts).Nodup = false := decide_eq_false h2
   rw [hd] at HP
   clear hbad h2 hd
   go_enter Try.func29,Try.ntmps29
   go_wp2_with (first|(go_at_call 38;(with_reducible refine HP.out.mono ?_);rintro e w1 ⟨rfl,hb1⟩;have HB1 := Aside0.mk hb1;clear hb1))
   first|go_ret2|((try simp only [Exit.inBlock,Exit.then]);refine bodyPost_ret (results_tmp2 rfl _ _ _) rfl ?_)
   exact ⟨_,rfl,Kd.R_nil _ _ _ _ _,HB1.out⟩
def fitBad (p t : Int) (pts : List S49) : Bool := decide (t < 0) || (!decide (0 :: xsOf pts).Nodup || (decide (t < (pts.length : Int)) || decide (p ≤ t)))
theorem fitBad_iff {p t : Int} {pts : List S49} : fitBad p t pts = true ↔ (t < 0 ∨ ¬ (0 :: xsOf pts).Nodup ∨ t < (pts.length : Int) ∨ p ≤ t) := by
 unfold fitBad
 simp only [Bool.or_eq_true,decide_eq_true_eq,Bool.not_eq_true',decide_eq_false_iff_not]
def shamir_FitSecret.f (a0 a1 : Int) (l2 : List S49) (a3 : Int) : Option (List Int × Int) :=
 if supB a0 = true then (if ptsB a0 l2 = true then (if resB a0 a3 = true then (if l2.length ≤ 1000000 then (if -9223372036854775808 ≤ a1 then (if a1 < 9223372036854775808 then
  (if fitBad a0 a1 l2 = true then some ([],1) else (if a1 ≤ 48 then some (fitL a0 a1.toNat l2 a3,0) else none)) else none) else none) else none) else none) else none) else none
theorem shamir_FitSecret.calls (a0 a1 : Int) (A2 : Option Addr) (c2 : Nat) (l2 : List S49) (a3 : Int) (r1 : List Int) (r2 : Int) (w : World) (hr2 : Kd.C k49 w A2 l2.length l2) (hc2 : l2.length ≤ c2) (h : shamir_FitSecret.f a0 a1 l2 a3 = some (r1,r2)) :
  Calls Try.prog 29 #[.int .u64 a0,.int .i64 a1,.slice A2 l2.length c2,.int .u64 a3] w fun e w' => ∃ v0_ : Value,e = .returned (.tuple #[v0_,.int .i64 r2]) ∧ Kd.R (Kd.int .u64) 22 w' w.heap.size (fun _ => True) v0_ r1 ∧ Below w.heap.size w w' := by
 unfold shamir_FitSecret.f at h
 obtain ⟨h1,h⟩ := ifs h
 obtain ⟨h2,h⟩ := ifs h
 obtain ⟨h3,h⟩ := ifs h
 obtain ⟨h4,h⟩ := ifs h
 obtain ⟨h5,h⟩ := ifs h
 obtain ⟨h6,h⟩ := ifs h
 by_cases hb : fitBad a0 a1 l2 = true
 ·rw [if_pos hb] at h
  have h := Option.some.inj h
  rw [← (Prod.mk.inj h).1,← (Prod.mk.inj h).2]
  exact fit_err a1 h5 h6 A2 c2 l2 h4 a3 w hr2 hc2 (fitBad_iff.1 hb)
 ·rw [if_neg hb] at h
  obtain ⟨h7,h⟩ := ifs h
  have h := Option.some.inj h
  rw [← (Prod.mk.inj h).1,← (Prod.mk.inj h).2]
  have hn : ¬ (a1 < 0 ∨ ¬ (0 :: xsOf l2).Nodup ∨ a1 < (l2.length : Int) ∨ a0 ≤ a1) := fun hx => hb (fitBad_iff.2 hx)
  have e : ((a1.toNat : Nat) : Int) = a1 := Int.toNat_of_nonneg (by omega)
  have hg := fit_walk (supB_of h1) a1.toNat (by omega) (by omega) A2 c2 l2 (ptsB_iff.1 h2) (Classical.byContradiction fun hx => hn (Or.inr (Or.inl hx))) (by omega) a3 (resB_iff.1 h3) w hr2 hc2
  rw [e] at hg
  exact hg
end Go.Proofs.Ytjnkkfdlcbcelaa.Hw
end
section
namespace Go.Proofs.Ytjnkkfdlcbcelaa.Pr
open Go.RowKit Go.Proofs.YtjnkkfdlcbcelaaW.PrintWords Go.Proofs.YtjnkkfdlcbcelaaW.PrintLast Go.Proofs.YtjnkkfdlcbcelaaW.PrintMore
attribute [local go_sem] max2_int min2_int max_two min_two max_three min_three max_four min_four
open Go.Proofs.Ytjnkkfdlcbcelaa.Hw
def privitylaw09_awake.f (k : Nat)  : Option (Bool) := (shamir_Reconstruct.f k 31 1 (([(⟨3,8⟩ : S49),(⟨1,6⟩ : S49)] : List (S49)))).bind fun bt300 => ((shamir_FitSecret.f 31 1 (([(⟨1,6⟩ : S49)] : List (S49))) 9).bind fun bt305 => ((shamir_Reconstruct.f k 31 1 (([(⟨1,6⟩ : S49)] : List (S49)))).bind fun bt312 => ((shamir_Reconstruct.f k 31 1 (([(⟨1,6⟩ : S49),(⟨2,7⟩ : S49),(⟨3,9⟩ : S49)] : List (S49)))).bind fun bt317 => ((shamir_Constant.f k 31 4 1 7).bind fun t319 => ((shamir_Shares.f k 31 3 (([5,1] : List Int))).bind fun t325 => ((privityref05_Same.f k t325 (([6,7,8] : List Int))).bind fun t331 => (if t331 = true then (if bt300.1 = 5 then (if bt300.2 = 0 then ((privityref05_Same.f k bt305.1 (([9,28] : List Int))).bind fun t335 => (if t335 = true then (if bt305.2 = 0 then (if bt312.2 = 1 then (if bt317.2 = 9 then ((privityref09_Same.f k t319 (([(([7,0] : List Int)),(([7,0] : List Int)),(([7,0] : List Int)),(([7,0] : List Int))] : List (List Int)))).bind fun t351 => (some t351)) else (some false)) else (some false)) else (some false)) else (some false))) else (some false)) else (some false)) else (some false))))))))
theorem privitylaw09_awake.mono : ∀ k,LeO (privitylaw09_awake.f k ) (privitylaw09_awake.f (k + 1) ) := by
 intro  k
 unfold privitylaw09_awake.f
 repeat' first
   | (with_reducible exact privityref05_Same.mono _ _ _)
   | (with_reducible exact privityref09_Same.mono _ _ _)
   | (with_reducible exact shamir_Constant.mono _ _ _ _ _)
   | (with_reducible exact shamir_Reconstruct.mono _ _ _ _)
   | (with_reducible exact shamir_Shares.mono _ _ _ _)
   | (with_reducible exact LeO.refl _)
   | (with_reducible exact LeO.none _)
   | (with_reducible refine LeO.ite ?_ ?_)
   | (with_reducible refine LeO.bind ?_ (fun _ => ?_))
   | exact privityref05_Same.mono _ _ _
   | exact privityref09_Same.mono _ _ _
   | exact shamir_Constant.mono _ _ _ _ _
   | exact shamir_Reconstruct.mono _ _ _ _
   | exact shamir_Shares.mono _ _ _ _
   | exact LeO.none _
   | refine LeO.ite ?_ ?_
   | refine LeO.bind ?_ (fun _ => ?_)
theorem privitylaw09_awake.more (k : Nat) : ∀ d,LeO (privitylaw09_awake.f k) (privitylaw09_awake.f (k + d))
  | 0 => fun r h => h
  | d + 1 => fun r h => privitylaw09_awake.mono (k + d) r (privitylaw09_awake.more k d r h)
theorem privitylaw09_awake.is : privitylaw09_awake.f 60 = some true := by kernel_rfl
theorem privitylaw09_awake.one (k : Nat) (r : Bool) (h : privitylaw09_awake.f k = some r) : r = true := by
  have h1 := privitylaw09_awake.more k 60 r h
  have h2 := privitylaw09_awake.more 60 k true privitylaw09_awake.is
  rw [Nat.add_comm,h1] at h2
  exact Option.some.inj h2
set_option maxHeartbeats 8000000 in
set_option maxRecDepth 100000 in
theorem privitylaw09_awake.calls (k : Nat)  (r : Bool) (w : World) (h : privitylaw09_awake.f k  = some r) :
  Calls Try.prog 6 #[] w fun e w' => e = .returned (.bool r) ∧ Below w.heap.size w w' := by
 have HR1 := am (privitylaw09_awake.one k r h)
 have hu49 := Try.underlying49
 have hu24 := Try.underlying24
 have HB := am (Below.refl w.heap.size w)
 have H : ((shamir_Reconstruct.f k 31 1 (([(⟨3,8⟩ : S49),(⟨1,6⟩ : S49)] : List (S49)))).bind fun bt300 => ((shamir_FitSecret.f 31 1 (([(⟨1,6⟩ : S49)] : List (S49))) 9).bind fun bt305 => ((shamir_Reconstruct.f k 31 1 (([(⟨1,6⟩ : S49)] : List (S49)))).bind fun bt312 => ((shamir_Reconstruct.f k 31 1 (([(⟨1,6⟩ : S49),(⟨2,7⟩ : S49),(⟨3,9⟩ : S49)] : List (S49)))).bind fun bt317 => ((shamir_Constant.f k 31 4 1 7).bind fun t319 => ((shamir_Shares.f k 31 3 (([5,1] : List Int))).bind fun t325 => ((privityref05_Same.f k t325 (([6,7,8] : List Int))).bind fun t331 => (if t331 = true then (if bt300.1 = 5 then (if bt300.2 = 0 then ((privityref05_Same.f k bt305.1 (([9,28] : List Int))).bind fun t335 => (if t335 = true then (if bt305.2 = 0 then (if bt312.2 = 1 then (if bt317.2 = 9 then ((privityref09_Same.f k t319 (([(([7,0] : List Int)),(([7,0] : List Int)),(([7,0] : List Int)),(([7,0] : List Int))] : List (List Int)))).bind fun t351 => (some t351)) else (some false)) else (some false)) else (some false)) else (some false))) else (some false)) else (some false)) else (some false))))))))) = some r := h
 clear h
 obtain ⟨y297,hy297⟩ : ∃ y_ : List (S49),y_ = (([(⟨3,8⟩ : S49),(⟨1,6⟩ : S49)] : List (S49))) := ⟨_,rfl⟩
 replace H : ((shamir_Reconstruct.f k 31 1 y297).bind fun bt300 => ((shamir_FitSecret.f 31 1 (([(⟨1,6⟩ : S49)] : List (S49))) 9).bind fun bt305 => ((shamir_Reconstruct.f k 31 1 (([(⟨1,6⟩ : S49)] : List (S49)))).bind fun bt312 => ((shamir_Reconstruct.f k 31 1 (([(⟨1,6⟩ : S49),(⟨2,7⟩ : S49),(⟨3,9⟩ : S49)] : List (S49)))).bind fun bt317 => ((shamir_Constant.f k 31 4 1 7).bind fun t319 => ((shamir_Shares.f k 31 3 (([5,1] : List Int))).bind fun t325 => ((privityref05_Same.f k t325 (([6,7,8] : List Int))).bind fun t331 => (if t331 = true then (if bt300.1 = 5 then (if bt300.2 = 0 then ((privityref05_Same.f k bt305.1 (([9,28] : List Int))).bind fun t335 => (if t335 = true then (if bt305.2 = 0 then (if bt312.2 = 1 then (if bt317.2 = 9 then ((privityref09_Same.f k t319 (([(([7,0] : List Int)),(([7,0] : List Int)),(([7,0] : List Int)),(([7,0] : List Int))] : List (List Int)))).bind fun t351 => (some t351)) else (some false)) else (some false)) else (some false)) else (some false))) else (some false)) else (some false)) else (some false))))))))) = some r := by first|(rw [hy297];with_reducible exact H)|(have H2_ := (Option.bind_some _ _).symm.trans H;rw [hy297];with_reducible exact H2_)|(have H2_ := (Option.bind_some _ _).symm.trans H;with_reducible exact H2_)|with_reducible exact H|(rw [hy297];exact H)|exact H
 have Ny297 := am hy297
 clear hy297
 replace H := Option.bind_eq_some_iff.mp H
 obtain ⟨⟨t300,t301⟩,A10,H⟩ := H
 try dsimp only at H
 have A1 := am A10
 clear A10
 obtain ⟨y302,hy302⟩ : ∃ y_ : List (S49),y_ = (([(⟨1,6⟩ : S49)] : List (S49))) := ⟨_,rfl⟩
 replace H : ((shamir_FitSecret.f 31 1 y302 9).bind fun bt305 => ((shamir_Reconstruct.f k 31 1 (([(⟨1,6⟩ : S49)] : List (S49)))).bind fun bt312 => ((shamir_Reconstruct.f k 31 1 (([(⟨1,6⟩ : S49),(⟨2,7⟩ : S49),(⟨3,9⟩ : S49)] : List (S49)))).bind fun bt317 => ((shamir_Constant.f k 31 4 1 7).bind fun t319 => ((shamir_Shares.f k 31 3 (([5,1] : List Int))).bind fun t325 => ((privityref05_Same.f k t325 (([6,7,8] : List Int))).bind fun t331 => (if t331 = true then (if t300 = 5 then (if t301 = 0 then ((privityref05_Same.f k bt305.1 (([9,28] : List Int))).bind fun t335 => (if t335 = true then (if bt305.2 = 0 then (if bt312.2 = 1 then (if bt317.2 = 9 then ((privityref09_Same.f k t319 (([(([7,0] : List Int)),(([7,0] : List Int)),(([7,0] : List Int)),(([7,0] : List Int))] : List (List Int)))).bind fun t351 => (some t351)) else (some false)) else (some false)) else (some false)) else (some false))) else (some false)) else (some false)) else (some false)))))))) = some r := by first|(rw [hy302];with_reducible exact H)|(have H2_ := (Option.bind_some _ _).symm.trans H;rw [hy302];with_reducible exact H2_)|(have H2_ := (Option.bind_some _ _).symm.trans H;with_reducible exact H2_)|with_reducible exact H|(rw [hy302];exact H)|exact H
 have Ny302 := am hy302
 clear hy302
 replace H := Option.bind_eq_some_iff.mp H
 obtain ⟨⟨t305,t306⟩,A20,H⟩ := H
 try dsimp only at H
 have A2 := am A20
 clear A20
 obtain ⟨y309,hy309⟩ : ∃ y_ : List (S49),y_ = (([(⟨1,6⟩ : S49)] : List (S49))) := ⟨_,rfl⟩
 replace H : ((shamir_Reconstruct.f k 31 1 y309).bind fun bt312 => ((shamir_Reconstruct.f k 31 1 (([(⟨1,6⟩ : S49),(⟨2,7⟩ : S49),(⟨3,9⟩ : S49)] : List (S49)))).bind fun bt317 => ((shamir_Constant.f k 31 4 1 7).bind fun t319 => ((shamir_Shares.f k 31 3 (([5,1] : List Int))).bind fun t325 => ((privityref05_Same.f k t325 (([6,7,8] : List Int))).bind fun t331 => (if t331 = true then (if t300 = 5 then (if t301 = 0 then ((privityref05_Same.f k t305 (([9,28] : List Int))).bind fun t335 => (if t335 = true then (if t306 = 0 then (if bt312.2 = 1 then (if bt317.2 = 9 then ((privityref09_Same.f k t319 (([(([7,0] : List Int)),(([7,0] : List Int)),(([7,0] : List Int)),(([7,0] : List Int))] : List (List Int)))).bind fun t351 => (some t351)) else (some false)) else (some false)) else (some false)) else (some false))) else (some false)) else (some false)) else (some false))))))) = some r := by first|(rw [hy309];with_reducible exact H)|(have H2_ := (Option.bind_some _ _).symm.trans H;rw [hy309];with_reducible exact H2_)|(have H2_ := (Option.bind_some _ _).symm.trans H;with_reducible exact H2_)|with_reducible exact H|(rw [hy309];exact H)|exact H
 have Ny309 := am hy309
 clear hy309
 replace H := Option.bind_eq_some_iff.mp H
 obtain ⟨⟨t312,t313⟩,A30,H⟩ := H
 try dsimp only at H
 have A3 := am A30
 clear A30
 obtain ⟨y314,hy314⟩ : ∃ y_ : List (S49),y_ = (([(⟨1,6⟩ : S49),(⟨2,7⟩ : S49),(⟨3,9⟩ : S49)] : List (S49))) := ⟨_,rfl⟩
 replace H : ((shamir_Reconstruct.f k 31 1 y314).bind fun bt317 => ((shamir_Constant.f k 31 4 1 7).bind fun t319 => ((shamir_Shares.f k 31 3 (([5,1] : List Int))).bind fun t325 => ((privityref05_Same.f k t325 (([6,7,8] : List Int))).bind fun t331 => (if t331 = true then (if t300 = 5 then (if t301 = 0 then ((privityref05_Same.f k t305 (([9,28] : List Int))).bind fun t335 => (if t335 = true then (if t306 = 0 then (if t313 = 1 then (if bt317.2 = 9 then ((privityref09_Same.f k t319 (([(([7,0] : List Int)),(([7,0] : List Int)),(([7,0] : List Int)),(([7,0] : List Int))] : List (List Int)))).bind fun t351 => (some t351)) else (some false)) else (some false)) else (some false)) else (some false))) else (some false)) else (some false)) else (some false)))))) = some r := by first|(rw [hy314];with_reducible exact H)|(have H2_ := (Option.bind_some _ _).symm.trans H;rw [hy314];with_reducible exact H2_)|(have H2_ := (Option.bind_some _ _).symm.trans H;with_reducible exact H2_)|with_reducible exact H|(rw [hy314];exact H)|exact H
 have Ny314 := am hy314
 clear hy314
 replace H := Option.bind_eq_some_iff.mp H
 obtain ⟨⟨t317,t318⟩,A40,H⟩ := H
 try dsimp only at H
 have A4 := am A40
 clear A40
 replace H := Option.bind_eq_some_iff.mp H
 obtain ⟨t319,A50,H⟩ := H
 try dsimp only at H
 have A5 := am A50
 clear A50
 obtain ⟨y322,hy322⟩ : ∃ y_ : List Int,y_ = (([5,1] : List Int)) := ⟨_,rfl⟩
 replace H : ((shamir_Shares.f k 31 3 y322).bind fun t325 => ((privityref05_Same.f k t325 (([6,7,8] : List Int))).bind fun t331 => (if t331 = true then (if t300 = 5 then (if t301 = 0 then ((privityref05_Same.f k t305 (([9,28] : List Int))).bind fun t335 => (if t335 = true then (if t306 = 0 then (if t313 = 1 then (if t318 = 9 then ((privityref09_Same.f k t319 (([(([7,0] : List Int)),(([7,0] : List Int)),(([7,0] : List Int)),(([7,0] : List Int))] : List (List Int)))).bind fun t351 => (some t351)) else (some false)) else (some false)) else (some false)) else (some false))) else (some false)) else (some false)) else (some false)))) = some r := by first|(rw [hy322];with_reducible exact H)|(have H2_ := (Option.bind_some _ _).symm.trans H;rw [hy322];with_reducible exact H2_)|(have H2_ := (Option.bind_some _ _).symm.trans H;with_reducible exact H2_)|with_reducible exact H|(rw [hy322];exact H)|exact H
 have Ny322 := am hy322
 clear hy322
 replace H := Option.bind_eq_some_iff.mp H
 obtain ⟨t325,A60,H⟩ := H
 try dsimp only at H
 have A6 := am A60
 clear A60
 obtain ⟨y328,hy328⟩ : ∃ y_ : List Int,y_ = (([6,7,8] : List Int)) := ⟨_,rfl⟩
 replace H : ((privityref05_Same.f k t325 y328).bind fun t331 => (if t331 = true then (if t300 = 5 then (if t301 = 0 then ((privityref05_Same.f k t305 (([9,28] : List Int))).bind fun t335 => (if t335 = true then (if t306 = 0 then (if t313 = 1 then (if t318 = 9 then ((privityref09_Same.f k t319 (([(([7,0] : List Int)),(([7,0] : List Int)),(([7,0] : List Int)),(([7,0] : List Int))] : List (List Int)))).bind fun t351 => (some t351)) else (some false)) else (some false)) else (some false)) else (some false))) else (some false)) else (some false)) else (some false))) = some r := by first|(rw [hy328];with_reducible exact H)|(have H2_ := (Option.bind_some _ _).symm.trans H;rw [hy328];with_reducible exact H2_)|(have H2_ := (Option.bind_some _ _).symm.trans H;with_reducible exact H2_)|with_reducible exact H|(rw [hy328];exact H)|exact H
 have Ny328 := am hy328
 clear hy328
 replace H := Option.bind_eq_some_iff.mp H
 obtain ⟨t331,A70,H⟩ := H
 try dsimp only at H
 have A7 := am A70
 clear A70
 by_cases c8 : t331 = true
 ·subst c8
  rw [if_pos rfl] at H
  by_cases c9 : t300 = 5
  ·rw [if_pos c9] at H
   have c9b0 : (t300 == 5) = true := beq_iff_eq.mpr c9
   have c9b1 : (t300 != 5) = false := bne_eq_false_iff_eq.mpr c9
   clear c9
   by_cases c10 : t301 = 0
   ·rw [if_pos c10] at H
    have c10b0 : (t301 == 0) = true := beq_iff_eq.mpr c10
    have c10b1 : (t301 != 0) = false := bne_eq_false_iff_eq.mpr c10
    clear c10
    obtain ⟨y332,hy332⟩ : ∃ y_ : List Int,y_ = (([9,28] : List Int)) := ⟨_,rfl⟩
    replace H : ((privityref05_Same.f k t305 y332).bind fun t335 => (if t335 = true then (if t306 = 0 then (if t313 = 1 then (if t318 = 9 then ((privityref09_Same.f k t319 (([(([7,0] : List Int)),(([7,0] : List Int)),(([7,0] : List Int)),(([7,0] : List Int))] : List (List Int)))).bind fun t351 => (some t351)) else (some false)) else (some false)) else (some false)) else (some false))) = some r := by first|(rw [hy332];with_reducible exact H)|(have H2_ := (Option.bind_some _ _).symm.trans H;rw [hy332];with_reducible exact H2_)|(have H2_ := (Option.bind_some _ _).symm.trans H;with_reducible exact H2_)|with_reducible exact H|(rw [hy332];exact H)|exact H
    have Ny332 := am hy332
    clear hy332
    replace H := Option.bind_eq_some_iff.mp H
    obtain ⟨t335,A110,H⟩ := H
    try dsimp only at H
    have A11 := am A110
    clear A110
    by_cases c12 : t335 = true
    ·subst c12
     rw [if_pos rfl] at H
     by_cases c13 : t306 = 0
     ·rw [if_pos c13] at H
      have c13b0 : (t306 == 0) = true := beq_iff_eq.mpr c13
      have c13b1 : (t306 != 0) = false := bne_eq_false_iff_eq.mpr c13
      clear c13
      by_cases c14 : t313 = 1
      ·rw [if_pos c14] at H
       have c14b0 : (t313 == 1) = true := beq_iff_eq.mpr c14
       have c14b1 : (t313 != 1) = false := bne_eq_false_iff_eq.mpr c14
       clear c14
       by_cases c15 : t318 = 9
       ·rw [if_pos c15] at H
        have c15b0 : (t318 == 9) = true := beq_iff_eq.mpr c15
        have c15b1 : (t318 != 9) = false := bne_eq_false_iff_eq.mpr c15
        clear c15
        obtain ⟨y336,hy336⟩ : ∃ y_ : List Int,y_ = (([7,0] : List Int)) := ⟨_,rfl⟩
        replace H : ((privityref09_Same.f k t319 (([y336,(([7,0] : List Int)),(([7,0] : List Int)),(([7,0] : List Int))] : List (List Int)))).bind fun t351 => (some t351)) = some r := by first|(rw [hy336];with_reducible exact H)|(have H2_ := (Option.bind_some _ _).symm.trans H;rw [hy336];with_reducible exact H2_)|(have H2_ := (Option.bind_some _ _).symm.trans H;with_reducible exact H2_)|with_reducible exact H|(rw [hy336];exact H)|exact H
        have Ny336 := am hy336
        clear hy336
        obtain ⟨y339,hy339⟩ : ∃ y_ : List Int,y_ = (([7,0] : List Int)) := ⟨_,rfl⟩
        replace H : ((privityref09_Same.f k t319 (([y336,y339,(([7,0] : List Int)),(([7,0] : List Int))] : List (List Int)))).bind fun t351 => (some t351)) = some r := by first|(rw [hy339];with_reducible exact H)|(have H2_ := (Option.bind_some _ _).symm.trans H;rw [hy339];with_reducible exact H2_)|(have H2_ := (Option.bind_some _ _).symm.trans H;with_reducible exact H2_)|with_reducible exact H|(rw [hy339];exact H)|exact H
        have Ny339 := am hy339
        clear hy339
        obtain ⟨y342,hy342⟩ : ∃ y_ : List Int,y_ = (([7,0] : List Int)) := ⟨_,rfl⟩
        replace H : ((privityref09_Same.f k t319 (([y336,y339,y342,(([7,0] : List Int))] : List (List Int)))).bind fun t351 => (some t351)) = some r := by first|(rw [hy342];with_reducible exact H)|(have H2_ := (Option.bind_some _ _).symm.trans H;rw [hy342];with_reducible exact H2_)|(have H2_ := (Option.bind_some _ _).symm.trans H;with_reducible exact H2_)|with_reducible exact H|(rw [hy342];exact H)|exact H
        have Ny342 := am hy342
        clear hy342
        obtain ⟨y345,hy345⟩ : ∃ y_ : List Int,y_ = (([7,0] : List Int)) := ⟨_,rfl⟩
        replace H : ((privityref09_Same.f k t319 (([y336,y339,y342,y345] : List (List Int)))).bind fun t351 => (some t351)) = some r := by first|(rw [hy345];with_reducible exact H)|(have H2_ := (Option.bind_some _ _).symm.trans H;rw [hy345];with_reducible exact H2_)|(have H2_ := (Option.bind_some _ _).symm.trans H;with_reducible exact H2_)|with_reducible exact H|(rw [hy345];exact H)|exact H
        have Ny345 := am hy345
        clear hy345
        obtain ⟨y348,hy348⟩ : ∃ y_ : List (List Int),y_ = (([y336,y339,y342,y345] : List (List Int))) := ⟨_,rfl⟩
        replace H : ((privityref09_Same.f k t319 y348).bind fun t351 => (some t351)) = some r := by first|(rw [hy348];with_reducible exact H)|(have H2_ := (Option.bind_some _ _).symm.trans H;rw [hy348];with_reducible exact H2_)|(have H2_ := (Option.bind_some _ _).symm.trans H;with_reducible exact H2_)|with_reducible exact H|(rw [hy348];exact H)|exact H
        have Ny348 := am hy348
        clear hy348
        replace H := Option.bind_eq_some_iff.mp H
        obtain ⟨t351,A160,H⟩ := H
        try dsimp only at H
        have A16 := am A160
        clear A160
        obtain rfl := Option.some.inj H
        go_enter Try.func6,Try.ntmps6
        go_wp2_with (first|((with_reducible refine gate_dst (N := 13) rfl ?_);(try (refine gate_guard (by rfl) ?_;dsimp only));refine Kd.R_lit k49 _ 49 ?hg (N := 13) ?hd (xs := ([(⟨3,8⟩ : S49),(⟨1,6⟩ : S49)] : List (S49))) (inner := [.int .u64 3,.int .u64 8,.int .u64 1,.int .u64 6]) (ok := fun _ => True) (okp := fun _ => True) ?hr ?hp (fun _ hk => hk) trivial (Below.refl _ _) (Nat.le_refl _) (by simp) ?_;(case hd => rfl);(case hg => rfl);(case hr => first|(go_simp;done)|(go_simp;rfl));(case hp => exact (Reps.c2 (show Kd.M k49 _ _ _ (⟨3,8⟩ : S49) [.int .u64 3,.int .u64 8] from (k49_mkM _ _ _ (⟨3,8⟩ : S49) )) (Reps.c2 (show Kd.M k49 _ _ _ (⟨1,6⟩ : S49) [.int .u64 1,.int .u64 6] from (k49_mkM _ _ _ (⟨1,6⟩ : S49) )) (Reps.none _ _))));intro v298 w17 ho18 hb hg_ hnew_;clear hg_ hnew_;(first|rw [← Ny297.out] at ho18|(simp only [Int.reduceToNat] at ho18;rw [← Ny297.out] at ho18));have n0_ := am (Kd.R_lower ho18 (below_size (bb HB)));have n1_ := am (below_step (bb HB) hb);clear HB;have HO299 := n0_;have HB := n1_;clear n0_ n1_;clear hb ho18;obtain ⟨Ao19,co19,eo19⟩ := Kd.R_slice HO299.out;subst eo19)|((with_reducible refine gate_callee (f := 24) rfl ?_);refine goesL_ (some 14) rfl rfl Try.func24 (by kernel_rfl) rfl #[.int .u64 31,.int .i64 1,.slice Ao19 y297.length co19] rfl (by (try simp only [List.map_toArray,List.map_cons,List.map_nil]);first|done|rfl|(simp only [List.length_drop,List.length_take];rfl)) ?_;(with_reducible refine (shamir_Reconstruct.calls k 31 1 _ _ y297 t300 t301 _ ?side1 ?side2 A1.out).mono ?_);(case side1 => exact cr HO299);(case side2 => exact (Kd.R_reads' HO299.out).2.1);rintro e w20 ⟨rfl,hb⟩;refine ⟨_,rfl,?_⟩;have n0_ := am (Kd.R_below (rr HO299) hb);have n1_ := am (below_step (bb HB) hb);clear HO299 HB;have HO299 := n0_;have HB := n1_;clear n0_ n1_;(try clear hb);(try clear hb2);(try clear hk);(try clear hi))|((with_reducible refine gate_dst (N := 19) rfl ?_);(try (refine gate_guard (by rfl) ?_;dsimp only));refine Kd.R_lit k49 _ 49 ?hg (N := 19) ?hd (xs := ([(⟨1,6⟩ : S49)] : List (S49))) (inner := [.int .u64 1,.int .u64 6]) (ok := fun _ => True) (okp := fun _ => True) ?hr ?hp (fun _ hk => hk) trivial (Below.refl _ _) (Nat.le_refl _) (by simp) ?_;(case hd => rfl);(case hg => rfl);(case hr => first|(go_simp;done)|(go_simp;rfl));(case hp => exact (Reps.c2 (show Kd.M k49 _ _ _ (⟨1,6⟩ : S49) [.int .u64 1,.int .u64 6] from (k49_mkM _ _ _ (⟨1,6⟩ : S49) )) (Reps.none _ _)));intro v303 w21 ho22 hb hg_ hnew_;clear hg_ hnew_;(first|rw [← Ny302.out] at ho22|(simp only [Int.reduceToNat] at ho22;rw [← Ny302.out] at ho22));have n0_ := am (Kd.R_elder' (rr HO299) (Kd.R_base ho22) hb);have n1_ := am (Kd.R_lower (Kd.R_new' ho22 (Kd.R_lt (rr HO299))) (below_size (bb HB)));have n2_ := am (below_step (bb HB) hb);clear HO299 HB;have HO299 := n0_;have HO304 := n1_;have HB := n2_;clear n0_ n1_ n2_;clear hb ho22;obtain ⟨Ao23,co23,eo23⟩ := Kd.R_slice HO304.out;subst eo23)|((with_reducible refine gate_callee (f := 29) rfl ?_);refine goesL_ (some 20) rfl rfl Try.func29 (by kernel_rfl) rfl #[.int .u64 31,.int .i64 1,.slice Ao23 y302.length co23,.int .u64 9] rfl (by (try simp only [List.map_toArray,List.map_cons,List.map_nil]);first|done|rfl|(simp only [List.length_drop,List.length_take];rfl)) ?_;(with_reducible refine (shamir_FitSecret.calls 31 1 _ _ y302 9 t305 t306 _ ?side1 ?side2 A2.out).mono ?_);(case side1 => exact cr HO304);(case side2 => exact (Kd.R_reads' HO304.out).2.1);rintro e w24 ⟨v307,rfl,ho0,hb⟩;refine ⟨_,rfl,?_⟩;have n0_ := am (Kd.R_below (rr HO299) hb);have n1_ := am (Kd.R_below (rr HO304) hb);have n2_ := am (Kd.R_lower ho0 (below_size (bb HB)));have n3_ := am (below_step (bb HB) hb);clear HO299 HO304 HB;have HO299 := n0_;have HO304 := n1_;have HO308 := n2_;have HB := n3_;clear n0_ n1_ n2_ n3_;(try clear hb);(try clear hb2);(try clear hk);(try clear hi);(try clear ho0))|((with_reducible refine gate_dst (N := 25) rfl ?_);(try (refine gate_guard (by rfl) ?_;dsimp only));refine Kd.R_lit k49 _ 49 ?hg (N := 25) ?hd (xs := ([(⟨1,6⟩ : S49)] : List (S49))) (inner := [.int .u64 1,.int .u64 6]) (ok := fun _ => True) (okp := fun _ => True) ?hr ?hp (fun _ hk => hk) trivial (Below.refl _ _) (Nat.le_refl _) (by simp) ?_;(case hd => rfl);(case hg => rfl);(case hr => first|(go_simp;done)|(go_simp;rfl));(case hp => exact (Reps.c2 (show Kd.M k49 _ _ _ (⟨1,6⟩ : S49) [.int .u64 1,.int .u64 6] from (k49_mkM _ _ _ (⟨1,6⟩ : S49) )) (Reps.none _ _)));intro v310 w25 ho26 hb hg_ hnew_;clear hg_ hnew_;(first|rw [← Ny309.out] at ho26|(simp only [Int.reduceToNat] at ho26;rw [← Ny309.out] at ho26));have n0_ := am (Kd.R_elder' (rr HO299) (Kd.R_base ho26) hb);have n1_ := am (Kd.R_elder' (rr HO304) (Kd.R_base ho26) hb);have n2_ := am (Kd.R_below (rr HO308) hb);have n3_ := am (Kd.R_lower (Kd.R_new' (Kd.R_new' ho26 (Kd.R_lt (rr HO299))) (Kd.R_lt (rr HO304))) (below_size (bb HB)));have n4_ := am (below_step (bb HB) hb);clear HO299 HO304 HO308 HB;have HO299 := n0_;have HO304 := n1_;have HO308 := n2_;have HO311 := n3_;have HB := n4_;clear n0_ n1_ n2_ n3_ n4_;clear hb ho26;obtain ⟨Ao27,co27,eo27⟩ := Kd.R_slice HO311.out;subst eo27)|((with_reducible refine gate_callee (f := 24) rfl ?_);refine goesL_ (some 26) rfl rfl Try.func24 (by kernel_rfl) rfl #[.int .u64 31,.int .i64 1,.slice Ao27 y309.length co27] rfl (by (try simp only [List.map_toArray,List.map_cons,List.map_nil]);first|done|rfl|(simp only [List.length_drop,List.length_take];rfl)) ?_;(with_reducible refine (shamir_Reconstruct.calls k 31 1 _ _ y309 t312 t313 _ ?side1 ?side2 A3.out).mono ?_);(case side1 => exact cr HO311);(case side2 => exact (Kd.R_reads' HO311.out).2.1);rintro e w28 ⟨rfl,hb⟩;refine ⟨_,rfl,?_⟩;have n0_ := am (Kd.R_below (rr HO299) hb);have n1_ := am (Kd.R_below (rr HO304) hb);have n2_ := am (Kd.R_below (rr HO308) hb);have n3_ := am (Kd.R_below (rr HO311) hb);have n4_ := am (below_step (bb HB) hb);clear HO299 HO304 HO308 HO311 HB;have HO299 := n0_;have HO304 := n1_;have HO308 := n2_;have HO311 := n3_;have HB := n4_;clear n0_ n1_ n2_ n3_ n4_;(try clear hb);(try clear hb2);(try clear hk);(try clear hi))|((with_reducible refine gate_dst (N := 33) rfl ?_);(try (refine gate_guard (by rfl) ?_;dsimp only));refine Kd.R_lit k49 _ 49 ?hg (N := 33) ?hd (xs := ([(⟨1,6⟩ : S49),(⟨2,7⟩ : S49),(⟨3,9⟩ : S49)] : List (S49))) (inner := [.int .u64 1,.int .u64 6,.int .u64 2,.int .u64 7,.int .u64 3,.int .u64 9]) (ok := fun _ => True) (okp := fun _ => True) ?hr ?hp (fun _ hk => hk) trivial (Below.refl _ _) (Nat.le_refl _) (by simp) ?_;(case hd => rfl);(case hg => rfl);(case hr => first|(go_simp;done)|(go_simp;rfl));(case hp => exact (Reps.c2 (show Kd.M k49 _ _ _ (⟨1,6⟩ : S49) [.int .u64 1,.int .u64 6] from (k49_mkM _ _ _ (⟨1,6⟩ : S49) )) (Reps.c2 (show Kd.M k49 _ _ _ (⟨2,7⟩ : S49) [.int .u64 2,.int .u64 7] from (k49_mkM _ _ _ (⟨2,7⟩ : S49) )) (Reps.c2 (show Kd.M k49 _ _ _ (⟨3,9⟩ : S49) [.int .u64 3,.int .u64 9] from (k49_mkM _ _ _ (⟨3,9⟩ : S49) )) (Reps.none _ _)))));intro v315 w29 ho30 hb hg_ hnew_;clear hg_ hnew_;(first|rw [← Ny314.out] at ho30|(simp only [Int.reduceToNat] at ho30;rw [← Ny314.out] at ho30));have n0_ := am (Kd.R_elder' (rr HO299) (Kd.R_base ho30) hb);have n1_ := am (Kd.R_elder' (rr HO304) (Kd.R_base ho30) hb);have n2_ := am (Kd.R_below (rr HO308) hb);have n3_ := am (Kd.R_elder' (rr HO311) (Kd.R_base ho30) hb);have n4_ := am (Kd.R_lower (Kd.R_new' (Kd.R_new' (Kd.R_new' ho30 (Kd.R_lt (rr HO299))) (Kd.R_lt (rr HO304))) (Kd.R_lt (rr HO311))) (below_size (bb HB)));have n5_ := am (below_step (bb HB) hb);clear HO299 HO304 HO308 HO311 HB;have HO299 := n0_;have HO304 := n1_;have HO308 := n2_;have HO311 := n3_;have HO316 := n4_;have HB := n5_;clear n0_ n1_ n2_ n3_ n4_ n5_;clear hb ho30;obtain ⟨Ao31,co31,eo31⟩ := Kd.R_slice HO316.out;subst eo31)|((with_reducible refine gate_callee (f := 24) rfl ?_);refine goesL_ (some 34) rfl rfl Try.func24 (by kernel_rfl) rfl #[.int .u64 31,.int .i64 1,.slice Ao31 y314.length co31] rfl (by (try simp only [List.map_toArray,List.map_cons,List.map_nil]);first|done|rfl|(simp only [List.length_drop,List.length_take];rfl)) ?_;(with_reducible refine (shamir_Reconstruct.calls k 31 1 _ _ y314 t317 t318 _ ?side1 ?side2 A4.out).mono ?_);(case side1 => exact cr HO316);(case side2 => exact (Kd.R_reads' HO316.out).2.1);rintro e w32 ⟨rfl,hb⟩;refine ⟨_,rfl,?_⟩;have n0_ := am (Kd.R_below (rr HO299) hb);have n1_ := am (Kd.R_below (rr HO304) hb);have n2_ := am (Kd.R_below (rr HO308) hb);have n3_ := am (Kd.R_below (rr HO311) hb);have n4_ := am (Kd.R_below (rr HO316) hb);have n5_ := am (below_step (bb HB) hb);clear HO299 HO304 HO308 HO311 HO316 HB;have HO299 := n0_;have HO304 := n1_;have HO308 := n2_;have HO311 := n3_;have HO316 := n4_;have HB := n5_;clear n0_ n1_ n2_ n3_ n4_ n5_;(try clear hb);(try clear hb2);(try clear hk);(try clear hi))|((with_reducible refine gate_callee (f := 17) rfl ?_);refine goesL_ (some 38) rfl rfl Try.func17 (by kernel_rfl) rfl #[.agg #[.int .u64 31,.int .i64 4,.int .i64 1],.int .u64 7] rfl (by (try simp only [List.map_toArray,List.map_cons,List.map_nil]);first|done|rfl|(simp only [List.length_drop,List.length_take];rfl)) ?_;(with_reducible refine (shamir_Constant.calls k 31 4 1 7 t319 _ A5.out).mono ?_);rintro e w33 ⟨v320,rfl,ho0,hb⟩;refine ⟨_,rfl,?_⟩;have n0_ := am (Kd.R_below (rr HO299) hb);have n1_ := am (Kd.R_below (rr HO304) hb);have n2_ := am (Kd.R_below (rr HO308) hb);have n3_ := am (Kd.R_below (rr HO311) hb);have n4_ := am (Kd.R_below (rr HO316) hb);have n5_ := am (Kd.N_lower (Kd.N_mono (ok' := fun k_ => some k_ ≠ (.slice Ao19 y297.length co19 : Value).ownBlock ∧ some k_ ≠ (.slice Ao23 y302.length co23 : Value).ownBlock ∧ some k_ ≠ (v307 : Value).ownBlock ∧ some k_ ≠ (.slice Ao27 y309.length co27 : Value).ownBlock ∧ some k_ ≠ (.slice Ao31 y314.length co31 : Value).ownBlock) (Kd.S_N (Kd.S_bound ho0)) (fun k_ hk_ => ⟨(Kd.fresh' (Kd.R_lt (rr HO299)) k_ hk_.2.1),(Kd.fresh' (Kd.R_lt (rr HO304)) k_ hk_.2.1),(Kd.fresh' (Kd.R_lt (rr HO308)) k_ hk_.2.1),(Kd.fresh' (Kd.R_lt (rr HO311)) k_ hk_.2.1),(Kd.fresh' (Kd.R_lt (rr HO316)) k_ hk_.2.1)⟩)) (below_size (bb HB)));have n6_ := am (below_step (bb HB) hb);clear HO299 HO304 HO308 HO311 HO316 HB;have HO299 := n0_;have HO304 := n1_;have HO308 := n2_;have HO311 := n3_;have HO316 := n4_;have HO321 := n5_;have HB := n6_;clear n0_ n1_ n2_ n3_ n4_ n5_ n6_;(try clear hb);(try clear hb2);(try clear hk);(try clear hi);(try clear ho0))|((with_reducible refine gate_dst (N := 39) rfl ?_);(try (refine gate_guard (by rfl) ?_;dsimp only));refine Kd.R_lit (Kd.int .u64) _ 22 ?hg (N := 39) ?hd (xs := ([5,1] : List Int)) (inner := [.int .u64 5,.int .u64 1]) (ok := fun _ => True) (okp := fun _ => True) ?hr ?hp (fun _ hk => hk) trivial (Below.refl _ _) (Nat.le_refl _) (by simp) ?_;(case hd => rfl);(case hg => rfl);(case hr => first|(go_simp;done)|(go_simp;rfl));(case hp => exact (Reps.one (show Kd.M (Kd.int .u64) _ _ _ 5 [.int .u64 5] from rfl) (Reps.one (show Kd.M (Kd.int .u64) _ _ _ 1 [.int .u64 1] from rfl) (Reps.none _ _))));intro v323 w34 ho35 hb hg_ hnew_;clear hg_ hnew_;(first|rw [← Ny322.out] at ho35|(simp only [Int.reduceToNat] at ho35;rw [← Ny322.out] at ho35));have n0_ := am (Kd.R_below (rr HO299) hb);have n1_ := am (Kd.R_below (rr HO304) hb);have n2_ := am (Kd.R_elder' (rr HO308) (Kd.R_base ho35) hb);have n3_ := am (Kd.R_below (rr HO311) hb);have n4_ := am (Kd.R_below (rr HO316) hb);have n5_ := am (Kd.N_elder' (rn HO321) (Kd.R_base ho35) hb);have n6_ := am (Kd.R_lower (Kd.R_new' ho35 (Kd.R_lt (rr HO308))) (below_size (bb HB)));have n7_ := am (below_step (bb HB) hb);clear HO299 HO304 HO308 HO311 HO316 HO321 HB;have HO299 := n0_;have HO304 := n1_;have HO308 := n2_;have HO311 := n3_;have HO316 := n4_;have HO321 := n5_;have HO324 := n6_;have HB := n7_;clear n0_ n1_ n2_ n3_ n4_ n5_ n6_ n7_;clear hb ho35;obtain ⟨Ao36,co36,eo36⟩ := Kd.R_slice HO324.out;subst eo36)|((with_reducible refine gate_callee (f := 23) rfl ?_);refine goesL_ (some 40) rfl rfl Try.func23 (by kernel_rfl) rfl #[.int .u64 31,.int .i64 3,.slice Ao36 y322.length co36] rfl (by (try simp only [List.map_toArray,List.map_cons,List.map_nil]);first|done|rfl|(simp only [List.length_drop,List.length_take];rfl)) ?_;(with_reducible refine (shamir_Shares.calls k 31 3 _ _ y322 t325 _ ?side1 ?side2 A6.out).mono ?_);(case side1 => exact cr HO324);(case side2 => exact (Kd.R_reads' HO324.out).2.1);rintro e w37 ⟨v326,rfl,ho0,hb⟩;refine ⟨_,rfl,?_⟩;have n0_ := am (Kd.R_below (rr HO299) hb);have n1_ := am (Kd.R_below (rr HO304) hb);have n2_ := am (Kd.R_elder' (rr HO308) (Kd.R_base ho0) hb);have n3_ := am (Kd.R_below (rr HO311) hb);have n4_ := am (Kd.R_below (rr HO316) hb);have n5_ := am (Kd.N_elder' (rn HO321) (Kd.R_base ho0) hb);have n6_ := am (Kd.R_elder' (rr HO324) (Kd.R_base ho0) hb);have n7_ := am (Kd.R_lower (Kd.R_new' (Kd.R_new' ho0 (Kd.R_lt (rr HO308))) (Kd.R_lt (rr HO324))) (below_size (bb HB)));have n8_ := am (below_step (bb HB) hb);clear HO299 HO304 HO308 HO311 HO316 HO321 HO324 HB;have HO299 := n0_;have HO304 := n1_;have HO308 := n2_;have HO311 := n3_;have HO316 := n4_;have HO321 := n5_;have HO324 := n6_;have HO327 := n7_;have HB := n8_;clear n0_ n1_ n2_ n3_ n4_ n5_ n6_ n7_ n8_;(try clear hb);(try clear hb2);(try clear hk);(try clear hi);(try clear ho0))|((with_reducible refine gate_dst (N := 41) rfl ?_);(try (refine gate_guard (by rfl) ?_;dsimp only));refine Kd.R_lit (Kd.int .u64) _ 22 ?hg (N := 41) ?hd (xs := ([6,7,8] : List Int)) (inner := [.int .u64 6,.int .u64 7,.int .u64 8]) (ok := fun _ => True) (okp := fun _ => True) ?hr ?hp (fun _ hk => hk) trivial (Below.refl _ _) (Nat.le_refl _) (by simp) ?_;(case hd => rfl);(case hg => rfl);(case hr => first|(go_simp;done)|(go_simp;rfl));(case hp => exact (Reps.one (show Kd.M (Kd.int .u64) _ _ _ 6 [.int .u64 6] from rfl) (Reps.one (show Kd.M (Kd.int .u64) _ _ _ 7 [.int .u64 7] from rfl) (Reps.one (show Kd.M (Kd.int .u64) _ _ _ 8 [.int .u64 8] from rfl) (Reps.none _ _)))));intro v329 w38 ho39 hb hg_ hnew_;clear hg_ hnew_;(first|rw [← Ny328.out] at ho39|(simp only [Int.reduceToNat] at ho39;rw [← Ny328.out] at ho39));have n0_ := am (Kd.R_below (rr HO299) hb);have n1_ := am (Kd.R_below (rr HO304) hb);have n2_ := am (Kd.R_elder' (rr HO308) (Kd.R_base ho39) hb);have n3_ := am (Kd.R_below (rr HO311) hb);have n4_ := am (Kd.R_below (rr HO316) hb);have n5_ := am (Kd.N_elder' (rn HO321) (Kd.R_base ho39) hb);have n6_ := am (Kd.R_elder' (rr HO324) (Kd.R_base ho39) hb);have n7_ := am (Kd.R_elder' (rr HO327) (Kd.R_base ho39) hb);have n8_ := am (Kd.R_lower (Kd.R_new' (Kd.R_new' (Kd.R_new' ho39 (Kd.R_lt (rr HO308))) (Kd.R_lt (rr HO324))) (Kd.R_lt (rr HO327))) (below_size (bb HB)));have n9_ := am (below_step (bb HB) hb);clear HO299 HO304 HO308 HO311 HO316 HO321 HO324 HO327 HB;have HO299 := n0_;have HO304 := n1_;have HO308 := n2_;have HO311 := n3_;have HO316 := n4_;have HO321 := n5_;have HO324 := n6_;have HO327 := n7_;have HO330 := n8_;have HB := n9_;clear n0_ n1_ n2_ n3_ n4_ n5_ n6_ n7_ n8_ n9_;clear hb ho39;obtain ⟨Ao40,co40,eo40⟩ := Kd.R_slice HO327.out;subst eo40;obtain ⟨Ao41,co41,eo41⟩ := Kd.R_slice HO330.out;subst eo41)|((with_reducible refine gate_callee (f := 31) rfl ?_);refine goesL_ (some 42) rfl rfl Try.func31 (by kernel_rfl) rfl #[.slice Ao40 t325.length co40,.slice Ao41 y328.length co41] rfl (by (try simp only [List.map_toArray,List.map_cons,List.map_nil]);first|done|rfl|(simp only [List.length_drop,List.length_take];rfl)) ?_;(with_reducible refine (privityref05_Same.calls k _ _ t325 _ _ y328 true _ ?side1 ?side2 ?side3 ?side4 A7.out).mono ?_);(case side1 => exact cr HO327);(case side2 => exact (Kd.R_reads' HO327.out).2.1);(case side3 => exact cr HO330);(case side4 => exact (Kd.R_reads' HO330.out).2.1);rintro e w' ⟨rfl,⟨nd,rfl⟩⟩;refine ⟨_,rfl,?_⟩)|((with_reducible refine gate_dst (N := 53) rfl ?_);(try (refine gate_guard (by rfl) ?_;dsimp only));refine Kd.R_lit (Kd.int .u64) _ 22 ?hg (N := 53) ?hd (xs := ([9,28] : List Int)) (inner := [.int .u64 9,.int .u64 28]) (ok := fun _ => True) (okp := fun _ => True) ?hr ?hp (fun _ hk => hk) trivial (Below.refl _ _) (Nat.le_refl _) (by simp) ?_;(case hd => rfl);(case hg => rfl);(case hr => first|(go_simp;done)|(go_simp;rfl));(case hp => exact (Reps.one (show Kd.M (Kd.int .u64) _ _ _ 9 [.int .u64 9] from rfl) (Reps.one (show Kd.M (Kd.int .u64) _ _ _ 28 [.int .u64 28] from rfl) (Reps.none _ _))));intro v333 w42 ho43 hb hg_ hnew_;clear hg_ hnew_;(first|rw [← Ny332.out] at ho43|(simp only [Int.reduceToNat] at ho43;rw [← Ny332.out] at ho43));have n0_ := am (Kd.R_below (rr HO299) hb);have n1_ := am (Kd.R_below (rr HO304) hb);have n2_ := am (Kd.R_elder' (rr HO308) (Kd.R_base ho43) hb);have n3_ := am (Kd.R_below (rr HO311) hb);have n4_ := am (Kd.R_below (rr HO316) hb);have n5_ := am (Kd.N_elder' (rn HO321) (Kd.R_base ho43) hb);have n6_ := am (Kd.R_elder' (rr HO324) (Kd.R_base ho43) hb);have n7_ := am (Kd.R_elder' (rr HO327) (Kd.R_base ho43) hb);have n8_ := am (Kd.R_elder' (rr HO330) (Kd.R_base ho43) hb);have n9_ := am (Kd.R_lower (Kd.R_new' (Kd.R_new' (Kd.R_new' (Kd.R_new' ho43 (Kd.R_lt (rr HO308))) (Kd.R_lt (rr HO324))) (Kd.R_lt (rr HO327))) (Kd.R_lt (rr HO330))) (below_size (bb HB)));have n10_ := am (below_step (bb HB) hb);clear HO299 HO304 HO308 HO311 HO316 HO321 HO324 HO327 HO330 HB;have HO299 := n0_;have HO304 := n1_;have HO308 := n2_;have HO311 := n3_;have HO316 := n4_;have HO321 := n5_;have HO324 := n6_;have HO327 := n7_;have HO330 := n8_;have HO334 := n9_;have HB := n10_;clear n0_ n1_ n2_ n3_ n4_ n5_ n6_ n7_ n8_ n9_ n10_;clear hb ho43;obtain ⟨Ao44,co44,eo44⟩ := Kd.R_slice HO308.out;subst eo44;obtain ⟨Ao45,co45,eo45⟩ := Kd.R_slice HO334.out;subst eo45)|(go_at_call 31;(with_reducible refine (privityref05_Same.calls k _ _ t305 _ _ y332 true _ ?side1 ?side2 ?side3 ?side4 A11.out).mono ?_);(case side1 => exact cr HO308);(case side2 => exact (Kd.R_reads' HO308.out).2.1);(case side3 => exact cr HO334);(case side4 => exact (Kd.R_reads' HO334.out).2.1);rintro e w' ⟨rfl,⟨nd,rfl⟩⟩)|((with_reducible refine gate_dst (N := 70) rfl ?_);(try (refine gate_guard (by rfl) ?_;dsimp only));refine Kd.R_lit (Kd.int .u64) _ 22 ?hg (N := 70) ?hd (xs := ([7,0] : List Int)) (inner := [.int .u64 7,.int .u64 0]) (ok := fun _ => True) (okp := fun _ => True) ?hr ?hp (fun _ hk => hk) trivial (Below.refl _ _) (Nat.le_refl _) (by simp) ?_;(case hd => rfl);(case hg => rfl);(case hr => first|(go_simp;done)|(go_simp;rfl));(case hp => exact (Reps.one (show Kd.M (Kd.int .u64) _ _ _ 7 [.int .u64 7] from rfl) (Reps.one (show Kd.M (Kd.int .u64) _ _ _ 0 [.int .u64 0] from rfl) (Reps.none _ _))));intro v337 w46 ho47 hb hg_ hnew_;clear hg_ hnew_;(first|rw [← Ny336.out] at ho47|(simp only [Int.reduceToNat] at ho47;rw [← Ny336.out] at ho47));have n0_ := am (Kd.R_below (rr HO299) hb);have n1_ := am (Kd.R_below (rr HO304) hb);have n2_ := am (Kd.R_elder' (rr HO308) (Kd.R_base ho47) hb);have n3_ := am (Kd.R_below (rr HO311) hb);have n4_ := am (Kd.R_below (rr HO316) hb);have n5_ := am (Kd.N_elder' (rn HO321) (Kd.R_base ho47) hb);have n6_ := am (Kd.R_elder' (rr HO324) (Kd.R_base ho47) hb);have n7_ := am (Kd.R_elder' (rr HO327) (Kd.R_base ho47) hb);have n8_ := am (Kd.R_elder' (rr HO330) (Kd.R_base ho47) hb);have n9_ := am (Kd.R_elder' (rr HO334) (Kd.R_base ho47) hb);have n10_ := am (Kd.R_lower (Kd.R_new' (Kd.R_new' (Kd.R_new' (Kd.R_new' (Kd.R_new' ho47 (Kd.R_lt (rr HO308))) (Kd.R_lt (rr HO324))) (Kd.R_lt (rr HO327))) (Kd.R_lt (rr HO330))) (Kd.R_lt (rr HO334))) (below_size (bb HB)));have n11_ := am (below_step (bb HB) hb);clear HO299 HO304 HO308 HO311 HO316 HO321 HO324 HO327 HO330 HO334 HB;have HO299 := n0_;have HO304 := n1_;have HO308 := n2_;have HO311 := n3_;have HO316 := n4_;have HO321 := n5_;have HO324 := n6_;have HO327 := n7_;have HO330 := n8_;have HO334 := n9_;have HO338 := n10_;have HB := n11_;clear n0_ n1_ n2_ n3_ n4_ n5_ n6_ n7_ n8_ n9_ n10_ n11_;clear hb ho47)|((with_reducible refine gate_dst (N := 71) rfl ?_);(try (refine gate_guard (by rfl) ?_;dsimp only));refine Kd.R_lit (Kd.int .u64) _ 22 ?hg (N := 71) ?hd (xs := ([7,0] : List Int)) (inner := [.int .u64 7,.int .u64 0]) (ok := fun _ => True) (okp := fun _ => True) ?hr ?hp (fun _ hk => hk) trivial (Below.refl _ _) (Nat.le_refl _) (by simp) ?_;(case hd => rfl);(case hg => rfl);(case hr => first|(go_simp;done)|(go_simp;rfl));(case hp => exact (Reps.one (show Kd.M (Kd.int .u64) _ _ _ 7 [.int .u64 7] from rfl) (Reps.one (show Kd.M (Kd.int .u64) _ _ _ 0 [.int .u64 0] from rfl) (Reps.none _ _))));intro v340 w48 ho49 hb hg_ hnew_;clear hg_ hnew_;(first|rw [← Ny339.out] at ho49|(simp only [Int.reduceToNat] at ho49;rw [← Ny339.out] at ho49));have n0_ := am (Kd.R_below (rr HO299) hb);have n1_ := am (Kd.R_below (rr HO304) hb);have n2_ := am (Kd.R_elder' (rr HO308) (Kd.R_base ho49) hb);have n3_ := am (Kd.R_below (rr HO311) hb);have n4_ := am (Kd.R_below (rr HO316) hb);have n5_ := am (Kd.N_elder' (rn HO321) (Kd.R_base ho49) hb);have n6_ := am (Kd.R_elder' (rr HO324) (Kd.R_base ho49) hb);have n7_ := am (Kd.R_elder' (rr HO327) (Kd.R_base ho49) hb);have n8_ := am (Kd.R_elder' (rr HO330) (Kd.R_base ho49) hb);have n9_ := am (Kd.R_elder' (rr HO334) (Kd.R_base ho49) hb);have n10_ := am (Kd.R_elder' (rr HO338) (Kd.R_base ho49) hb);have n11_ := am (Kd.R_lower (Kd.R_new' (Kd.R_new' (Kd.R_new' (Kd.R_new' (Kd.R_new' (Kd.R_new' ho49 (Kd.R_lt (rr HO308))) (Kd.R_lt (rr HO324))) (Kd.R_lt (rr HO327))) (Kd.R_lt (rr HO330))) (Kd.R_lt (rr HO334))) (Kd.R_lt (rr HO338))) (below_size (bb HB)));have n12_ := am (below_step (bb HB) hb);clear HO299 HO304 HO308 HO311 HO316 HO321 HO324 HO327 HO330 HO334 HO338 HB;have HO299 := n0_;have HO304 := n1_;have HO308 := n2_;have HO311 := n3_;have HO316 := n4_;have HO321 := n5_;have HO324 := n6_;have HO327 := n7_;have HO330 := n8_;have HO334 := n9_;have HO338 := n10_;have HO341 := n11_;have HB := n12_;clear n0_ n1_ n2_ n3_ n4_ n5_ n6_ n7_ n8_ n9_ n10_ n11_ n12_;clear hb ho49)|((with_reducible refine gate_dst (N := 72) rfl ?_);(try (refine gate_guard (by rfl) ?_;dsimp only));refine Kd.R_lit (Kd.int .u64) _ 22 ?hg (N := 72) ?hd (xs := ([7,0] : List Int)) (inner := [.int .u64 7,.int .u64 0]) (ok := fun _ => True) (okp := fun _ => True) ?hr ?hp (fun _ hk => hk) trivial (Below.refl _ _) (Nat.le_refl _) (by simp) ?_;(case hd => rfl);(case hg => rfl);(case hr => first|(go_simp;done)|(go_simp;rfl));(case hp => exact (Reps.one (show Kd.M (Kd.int .u64) _ _ _ 7 [.int .u64 7] from rfl) (Reps.one (show Kd.M (Kd.int .u64) _ _ _ 0 [.int .u64 0] from rfl) (Reps.none _ _))));intro v343 w50 ho51 hb hg_ hnew_;clear hg_ hnew_;(first|rw [← Ny342.out] at ho51|(simp only [Int.reduceToNat] at ho51;rw [← Ny342.out] at ho51));have n0_ := am (Kd.R_below (rr HO299) hb);have n1_ := am (Kd.R_below (rr HO304) hb);have n2_ := am (Kd.R_elder' (rr HO308) (Kd.R_base ho51) hb);have n3_ := am (Kd.R_below (rr HO311) hb);have n4_ := am (Kd.R_below (rr HO316) hb);have n5_ := am (Kd.N_elder' (rn HO321) (Kd.R_base ho51) hb);have n6_ := am (Kd.R_elder' (rr HO324) (Kd.R_base ho51) hb);have n7_ := am (Kd.R_elder' (rr HO327) (Kd.R_base ho51) hb);have n8_ := am (Kd.R_elder' (rr HO330) (Kd.R_base ho51) hb);have n9_ := am (Kd.R_elder' (rr HO334) (Kd.R_base ho51) hb);have n10_ := am (Kd.R_elder' (rr HO338) (Kd.R_base ho51) hb);have n11_ := am (Kd.R_elder' (rr HO341) (Kd.R_base ho51) hb);have n12_ := am (Kd.R_lower (Kd.R_new' (Kd.R_new' (Kd.R_new' (Kd.R_new' (Kd.R_new' (Kd.R_new' (Kd.R_new' ho51 (Kd.R_lt (rr HO308))) (Kd.R_lt (rr HO324))) (Kd.R_lt (rr HO327))) (Kd.R_lt (rr HO330))) (Kd.R_lt (rr HO334))) (Kd.R_lt (rr HO338))) (Kd.R_lt (rr HO341))) (below_size (bb HB)));have n13_ := am (below_step (bb HB) hb);clear HO299 HO304 HO308 HO311 HO316 HO321 HO324 HO327 HO330 HO334 HO338 HO341 HB;have HO299 := n0_;have HO304 := n1_;have HO308 := n2_;have HO311 := n3_;have HO316 := n4_;have HO321 := n5_;have HO324 := n6_;have HO327 := n7_;have HO330 := n8_;have HO334 := n9_;have HO338 := n10_;have HO341 := n11_;have HO344 := n12_;have HB := n13_;clear n0_ n1_ n2_ n3_ n4_ n5_ n6_ n7_ n8_ n9_ n10_ n11_ n12_ n13_;clear hb ho51)|((with_reducible refine gate_dst (N := 73) rfl ?_);(try (refine gate_guard (by rfl) ?_;dsimp only));refine Kd.R_lit (Kd.int .u64) _ 22 ?hg (N := 73) ?hd (xs := ([7,0] : List Int)) (inner := [.int .u64 7,.int .u64 0]) (ok := fun _ => True) (okp := fun _ => True) ?hr ?hp (fun _ hk => hk) trivial (Below.refl _ _) (Nat.le_refl _) (by simp) ?_;(case hd => rfl);(case hg => rfl);(case hr => first|(go_simp;done)|(go_simp;rfl));(case hp => exact (Reps.one (show Kd.M (Kd.int .u64) _ _ _ 7 [.int .u64 7] from rfl) (Reps.one (show Kd.M (Kd.int .u64) _ _ _ 0 [.int .u64 0] from rfl) (Reps.none _ _))));intro v346 w52 ho53 hb hg_ hnew_;clear hg_ hnew_;(first|rw [← Ny345.out] at ho53|(simp only [Int.reduceToNat] at ho53;rw [← Ny345.out] at ho53));have n0_ := am (Kd.R_below (rr HO299) hb);have n1_ := am (Kd.R_below (rr HO304) hb);have n2_ := am (Kd.R_elder' (rr HO308) (Kd.R_base ho53) hb);have n3_ := am (Kd.R_below (rr HO311) hb);have n4_ := am (Kd.R_below (rr HO316) hb);have n5_ := am (Kd.N_elder' (rn HO321) (Kd.R_base ho53) hb);have n6_ := am (Kd.R_elder' (rr HO324) (Kd.R_base ho53) hb);have n7_ := am (Kd.R_elder' (rr HO327) (Kd.R_base ho53) hb);have n8_ := am (Kd.R_elder' (rr HO330) (Kd.R_base ho53) hb);have n9_ := am (Kd.R_elder' (rr HO334) (Kd.R_base ho53) hb);have n10_ := am (Kd.R_elder' (rr HO338) (Kd.R_base ho53) hb);have n11_ := am (Kd.R_elder' (rr HO341) (Kd.R_base ho53) hb);have n12_ := am (Kd.R_elder' (rr HO344) (Kd.R_base ho53) hb);have n13_ := am (Kd.R_lower (Kd.R_new' (Kd.R_new' (Kd.R_new' (Kd.R_new' (Kd.R_new' (Kd.R_new' (Kd.R_new' (Kd.R_new' ho53 (Kd.R_lt (rr HO308))) (Kd.R_lt (rr HO324))) (Kd.R_lt (rr HO327))) (Kd.R_lt (rr HO330))) (Kd.R_lt (rr HO334))) (Kd.R_lt (rr HO338))) (Kd.R_lt (rr HO341))) (Kd.R_lt (rr HO344))) (below_size (bb HB)));have n14_ := am (below_step (bb HB) hb);clear HO299 HO304 HO308 HO311 HO316 HO321 HO324 HO327 HO330 HO334 HO338 HO341 HO344 HB;have HO299 := n0_;have HO304 := n1_;have HO308 := n2_;have HO311 := n3_;have HO316 := n4_;have HO321 := n5_;have HO324 := n6_;have HO327 := n7_;have HO330 := n8_;have HO334 := n9_;have HO338 := n10_;have HO341 := n11_;have HO344 := n12_;have HO347 := n13_;have HB := n14_;clear n0_ n1_ n2_ n3_ n4_ n5_ n6_ n7_ n8_ n9_ n10_ n11_ n12_ n13_ n14_;clear hb ho53;obtain ⟨Ao54,co54,eo54⟩ := Kd.R_slice HO338.out;subst eo54;obtain ⟨Ao55,co55,eo55⟩ := Kd.R_slice HO341.out;subst eo55;obtain ⟨Ao56,co56,eo56⟩ := Kd.R_slice HO344.out;subst eo56;obtain ⟨Ao57,co57,eo57⟩ := Kd.R_slice HO347.out;subst eo57)|((with_reducible refine gate_dst (N := 74) rfl ?_);(try (refine gate_guard (by rfl) ?_;dsimp only));refine Kd.N_lit (Kd.slice 22 (Kd.int .u64)) _ 41 ?hg (N' := 74) ?hd (xs := ([y336,y339,y342,y345] : List (List Int))) (inner := [.slice Ao54 y336.length co54,.slice Ao55 y339.length co55,.slice Ao56 y342.length co56,.slice Ao57 y345.length co57]) (ok := (fun k_ => some k_ ≠ (.slice Ao19 y297.length co19 : Value).ownBlock ∧ some k_ ≠ (.slice Ao23 y302.length co23 : Value).ownBlock ∧ some k_ ≠ (.slice Ao44 t305.length co44 : Value).ownBlock ∧ some k_ ≠ (.slice Ao27 y309.length co27 : Value).ownBlock ∧ some k_ ≠ (.slice Ao31 y314.length co31 : Value).ownBlock ∧ some k_ ≠ (v320 : Value).ownBlock ∧ some k_ ≠ (.slice Ao36 y322.length co36 : Value).ownBlock ∧ some k_ ≠ (.slice Ao40 t325.length co40 : Value).ownBlock ∧ some k_ ≠ (.slice Ao41 y328.length co41 : Value).ownBlock ∧ some k_ ≠ (.slice Ao45 y332.length co45 : Value).ownBlock)) (okp := (fun k_ => some k_ ≠ (.slice Ao19 y297.length co19 : Value).ownBlock ∧ some k_ ≠ (.slice Ao23 y302.length co23 : Value).ownBlock ∧ some k_ ≠ (.slice Ao44 t305.length co44 : Value).ownBlock ∧ some k_ ≠ (.slice Ao27 y309.length co27 : Value).ownBlock ∧ some k_ ≠ (.slice Ao31 y314.length co31 : Value).ownBlock ∧ some k_ ≠ (v320 : Value).ownBlock ∧ some k_ ≠ (.slice Ao36 y322.length co36 : Value).ownBlock ∧ some k_ ≠ (.slice Ao40 t325.length co40 : Value).ownBlock ∧ some k_ ≠ (.slice Ao41 y328.length co41 : Value).ownBlock ∧ some k_ ≠ (.slice Ao45 y332.length co45 : Value).ownBlock)) ?hr ?hp (fun _ hk => hk) ((show ∀ k_,w52.heap.size ≤ k_ → (fun k_ => some k_ ≠ (.slice Ao19 y297.length co19 : Value).ownBlock ∧ some k_ ≠ (.slice Ao23 y302.length co23 : Value).ownBlock ∧ some k_ ≠ (.slice Ao44 t305.length co44 : Value).ownBlock ∧ some k_ ≠ (.slice Ao27 y309.length co27 : Value).ownBlock ∧ some k_ ≠ (.slice Ao31 y314.length co31 : Value).ownBlock ∧ some k_ ≠ (v320 : Value).ownBlock ∧ some k_ ≠ (.slice Ao36 y322.length co36 : Value).ownBlock ∧ some k_ ≠ (.slice Ao40 t325.length co40 : Value).ownBlock ∧ some k_ ≠ (.slice Ao41 y328.length co41 : Value).ownBlock ∧ some k_ ≠ (.slice Ao45 y332.length co45 : Value).ownBlock) k_ from fun k_ hk => ⟨Kd.fresh' (Kd.R_lt (rr HO299)) k_ hk,Kd.fresh' (Kd.R_lt (rr HO304)) k_ hk,Kd.fresh' (Kd.R_lt (rr HO308)) k_ hk,Kd.fresh' (Kd.R_lt (rr HO311)) k_ hk,Kd.fresh' (Kd.R_lt (rr HO316)) k_ hk,Kd.fresh' (Kd.N_lt (rn HO321)) k_ hk,Kd.fresh' (Kd.R_lt (rr HO324)) k_ hk,Kd.fresh' (Kd.R_lt (rr HO327)) k_ hk,Kd.fresh' (Kd.R_lt (rr HO330)) k_ hk,Kd.fresh' (Kd.R_lt (rr HO334)) k_ hk⟩) _ (Nat.le_refl _)) (Below.refl _ _) (Nat.le_refl _) (by simp) ?_;(case hd => rfl);(case hg => rfl);(case hr => first|(go_simp;done)|(go_simp;rfl));(case hp => exact (Reps.one (show Kd.FK (Kd.slice 22 (Kd.int .u64)) _ _ y336 [.slice Ao54 y336.length co54] from (Kd.FK_slice_mk (Kd.R_reads' (Kd.R_mono (ok' := (fun k_ => some k_ ≠ (.slice Ao19 y297.length co19 : Value).ownBlock ∧ some k_ ≠ (.slice Ao23 y302.length co23 : Value).ownBlock ∧ some k_ ≠ (.slice Ao44 t305.length co44 : Value).ownBlock ∧ some k_ ≠ (.slice Ao27 y309.length co27 : Value).ownBlock ∧ some k_ ≠ (.slice Ao31 y314.length co31 : Value).ownBlock ∧ some k_ ≠ (v320 : Value).ownBlock ∧ some k_ ≠ (.slice Ao36 y322.length co36 : Value).ownBlock ∧ some k_ ≠ (.slice Ao40 t325.length co40 : Value).ownBlock ∧ some k_ ≠ (.slice Ao41 y328.length co41 : Value).ownBlock ∧ some k_ ≠ (.slice Ao45 y332.length co45 : Value).ownBlock)) (Kd.R_apart' (Kd.R_apart' (Kd.R_apart' (Kd.R_apart' (Kd.R_apart' (HO338.out) (Kd.R_typed HO299.out) (by decide)) (Kd.R_typed HO304.out) (by decide)) (Kd.R_typed HO311.out) (by decide)) (Kd.R_typed HO316.out) (by decide)) (Kd.N_typed HO321.out) (by decide)) (fun k_ hk => ⟨hk.1.1.1.1.2,⟨hk.1.1.1.2,⟨hk.1.1.1.1.1.1.1.1.1.1.1.1.2,⟨hk.1.1.2,⟨hk.1.2,⟨hk.2,⟨hk.1.1.1.1.1.1.1.1.1.1.1.2,⟨hk.1.1.1.1.1.1.1.1.1.1.2,⟨hk.1.1.1.1.1.1.1.1.1.2,hk.1.1.1.1.1.1.1.1.2⟩⟩⟩⟩⟩⟩⟩⟩⟩))).2.1 (Kd.R_F (Kd.R_mono (ok' := (fun k_ => some k_ ≠ (.slice Ao19 y297.length co19 : Value).ownBlock ∧ some k_ ≠ (.slice Ao23 y302.length co23 : Value).ownBlock ∧ some k_ ≠ (.slice Ao44 t305.length co44 : Value).ownBlock ∧ some k_ ≠ (.slice Ao27 y309.length co27 : Value).ownBlock ∧ some k_ ≠ (.slice Ao31 y314.length co31 : Value).ownBlock ∧ some k_ ≠ (v320 : Value).ownBlock ∧ some k_ ≠ (.slice Ao36 y322.length co36 : Value).ownBlock ∧ some k_ ≠ (.slice Ao40 t325.length co40 : Value).ownBlock ∧ some k_ ≠ (.slice Ao41 y328.length co41 : Value).ownBlock ∧ some k_ ≠ (.slice Ao45 y332.length co45 : Value).ownBlock)) (Kd.R_apart' (Kd.R_apart' (Kd.R_apart' (Kd.R_apart' (Kd.R_apart' (HO338.out) (Kd.R_typed HO299.out) (by decide)) (Kd.R_typed HO304.out) (by decide)) (Kd.R_typed HO311.out) (by decide)) (Kd.R_typed HO316.out) (by decide)) (Kd.N_typed HO321.out) (by decide)) (fun k_ hk => ⟨hk.1.1.1.1.2,⟨hk.1.1.1.2,⟨hk.1.1.1.1.1.1.1.1.1.1.1.1.2,⟨hk.1.1.2,⟨hk.1.2,⟨hk.2,⟨hk.1.1.1.1.1.1.1.1.1.1.1.2,⟨hk.1.1.1.1.1.1.1.1.1.1.2,⟨hk.1.1.1.1.1.1.1.1.1.2,hk.1.1.1.1.1.1.1.1.2⟩⟩⟩⟩⟩⟩⟩⟩⟩))))) (Reps.one (show Kd.FK (Kd.slice 22 (Kd.int .u64)) _ _ y339 [.slice Ao55 y339.length co55] from (Kd.FK_slice_mk (Kd.R_reads' (Kd.R_mono (ok' := (fun k_ => some k_ ≠ (.slice Ao19 y297.length co19 : Value).ownBlock ∧ some k_ ≠ (.slice Ao23 y302.length co23 : Value).ownBlock ∧ some k_ ≠ (.slice Ao44 t305.length co44 : Value).ownBlock ∧ some k_ ≠ (.slice Ao27 y309.length co27 : Value).ownBlock ∧ some k_ ≠ (.slice Ao31 y314.length co31 : Value).ownBlock ∧ some k_ ≠ (v320 : Value).ownBlock ∧ some k_ ≠ (.slice Ao36 y322.length co36 : Value).ownBlock ∧ some k_ ≠ (.slice Ao40 t325.length co40 : Value).ownBlock ∧ some k_ ≠ (.slice Ao41 y328.length co41 : Value).ownBlock ∧ some k_ ≠ (.slice Ao45 y332.length co45 : Value).ownBlock)) (Kd.R_apart' (Kd.R_apart' (Kd.R_apart' (Kd.R_apart' (Kd.R_apart' (HO341.out) (Kd.R_typed HO299.out) (by decide)) (Kd.R_typed HO304.out) (by decide)) (Kd.R_typed HO311.out) (by decide)) (Kd.R_typed HO316.out) (by decide)) (Kd.N_typed HO321.out) (by decide)) (fun k_ hk => ⟨hk.1.1.1.1.2,⟨hk.1.1.1.2,⟨hk.1.1.1.1.1.1.1.1.1.1.1.1.2,⟨hk.1.1.2,⟨hk.1.2,⟨hk.2,⟨hk.1.1.1.1.1.1.1.1.1.1.1.2,⟨hk.1.1.1.1.1.1.1.1.1.1.2,⟨hk.1.1.1.1.1.1.1.1.1.2,hk.1.1.1.1.1.1.1.1.2⟩⟩⟩⟩⟩⟩⟩⟩⟩))).2.1 (Kd.R_F (Kd.R_mono (ok' := (fun k_ => some k_ ≠ (.slice Ao19 y297.length co19 : Value).ownBlock ∧ some k_ ≠ (.slice Ao23 y302.length co23 : Value).ownBlock ∧ some k_ ≠ (.slice Ao44 t305.length co44 : Value).ownBlock ∧ some k_ ≠ (.slice Ao27 y309.length co27 : Value).ownBlock ∧ some k_ ≠ (.slice Ao31 y314.length co31 : Value).ownBlock ∧ some k_ ≠ (v320 : Value).ownBlock ∧ some k_ ≠ (.slice Ao36 y322.length co36 : Value).ownBlock ∧ some k_ ≠ (.slice Ao40 t325.length co40 : Value).ownBlock ∧ some k_ ≠ (.slice Ao41 y328.length co41 : Value).ownBlock ∧ some k_ ≠ (.slice Ao45 y332.length co45 : Value).ownBlock)) (Kd.R_apart' (Kd.R_apart' (Kd.R_apart' (Kd.R_apart' (Kd.R_apart' (HO341.out) (Kd.R_typed HO299.out) (by decide)) (Kd.R_typed HO304.out) (by decide)) (Kd.R_typed HO311.out) (by decide)) (Kd.R_typed HO316.out) (by decide)) (Kd.N_typed HO321.out) (by decide)) (fun k_ hk => ⟨hk.1.1.1.1.2,⟨hk.1.1.1.2,⟨hk.1.1.1.1.1.1.1.1.1.1.1.1.2,⟨hk.1.1.2,⟨hk.1.2,⟨hk.2,⟨hk.1.1.1.1.1.1.1.1.1.1.1.2,⟨hk.1.1.1.1.1.1.1.1.1.1.2,⟨hk.1.1.1.1.1.1.1.1.1.2,hk.1.1.1.1.1.1.1.1.2⟩⟩⟩⟩⟩⟩⟩⟩⟩))))) (Reps.one (show Kd.FK (Kd.slice 22 (Kd.int .u64)) _ _ y342 [.slice Ao56 y342.length co56] from (Kd.FK_slice_mk (Kd.R_reads' (Kd.R_mono (ok' := (fun k_ => some k_ ≠ (.slice Ao19 y297.length co19 : Value).ownBlock ∧ some k_ ≠ (.slice Ao23 y302.length co23 : Value).ownBlock ∧ some k_ ≠ (.slice Ao44 t305.length co44 : Value).ownBlock ∧ some k_ ≠ (.slice Ao27 y309.length co27 : Value).ownBlock ∧ some k_ ≠ (.slice Ao31 y314.length co31 : Value).ownBlock ∧ some k_ ≠ (v320 : Value).ownBlock ∧ some k_ ≠ (.slice Ao36 y322.length co36 : Value).ownBlock ∧ some k_ ≠ (.slice Ao40 t325.length co40 : Value).ownBlock ∧ some k_ ≠ (.slice Ao41 y328.length co41 : Value).ownBlock ∧ some k_ ≠ (.slice Ao45 y332.length co45 : Value).ownBlock)) (Kd.R_apart' (Kd.R_apart' (Kd.R_apart' (Kd.R_apart' (Kd.R_apart' (HO344.out) (Kd.R_typed HO299.out) (by decide)) (Kd.R_typed HO304.out) (by decide)) (Kd.R_typed HO311.out) (by decide)) (Kd.R_typed HO316.out) (by decide)) (Kd.N_typed HO321.out) (by decide)) (fun k_ hk => ⟨hk.1.1.1.1.2,⟨hk.1.1.1.2,⟨hk.1.1.1.1.1.1.1.1.1.1.1.1.2,⟨hk.1.1.2,⟨hk.1.2,⟨hk.2,⟨hk.1.1.1.1.1.1.1.1.1.1.1.2,⟨hk.1.1.1.1.1.1.1.1.1.1.2,⟨hk.1.1.1.1.1.1.1.1.1.2,hk.1.1.1.1.1.1.1.1.2⟩⟩⟩⟩⟩⟩⟩⟩⟩))).2.1 (Kd.R_F (Kd.R_mono (ok' := (fun k_ => some k_ ≠ (.slice Ao19 y297.length co19 : Value).ownBlock ∧ some k_ ≠ (.slice Ao23 y302.length co23 : Value).ownBlock ∧ some k_ ≠ (.slice Ao44 t305.length co44 : Value).ownBlock ∧ some k_ ≠ (.slice Ao27 y309.length co27 : Value).ownBlock ∧ some k_ ≠ (.slice Ao31 y314.length co31 : Value).ownBlock ∧ some k_ ≠ (v320 : Value).ownBlock ∧ some k_ ≠ (.slice Ao36 y322.length co36 : Value).ownBlock ∧ some k_ ≠ (.slice Ao40 t325.length co40 : Value).ownBlock ∧ some k_ ≠ (.slice Ao41 y328.length co41 : Value).ownBlock ∧ some k_ ≠ (.slice Ao45 y332.length co45 : Value).ownBlock)) (Kd.R_apart' (Kd.R_apart' (Kd.R_apart' (Kd.R_apart' (Kd.R_apart' (HO344.out) (Kd.R_typed HO299.out) (by decide)) (Kd.R_typed HO304.out) (by decide)) (Kd.R_typed HO311.out) (by decide)) (Kd.R_typed HO316.out) (by decide)) (Kd.N_typed HO321.out) (by decide)) (fun k_ hk => ⟨hk.1.1.1.1.2,⟨hk.1.1.1.2,⟨hk.1.1.1.1.1.1.1.1.1.1.1.1.2,⟨hk.1.1.2,⟨hk.1.2,⟨hk.2,⟨hk.1.1.1.1.1.1.1.1.1.1.1.2,⟨hk.1.1.1.1.1.1.1.1.1.1.2,⟨hk.1.1.1.1.1.1.1.1.1.2,hk.1.1.1.1.1.1.1.1.2⟩⟩⟩⟩⟩⟩⟩⟩⟩))))) (Reps.one (show Kd.FK (Kd.slice 22 (Kd.int .u64)) _ _ y345 [.slice Ao57 y345.length co57] from (Kd.FK_slice_mk (Kd.R_reads' (Kd.R_mono (ok' := (fun k_ => some k_ ≠ (.slice Ao19 y297.length co19 : Value).ownBlock ∧ some k_ ≠ (.slice Ao23 y302.length co23 : Value).ownBlock ∧ some k_ ≠ (.slice Ao44 t305.length co44 : Value).ownBlock ∧ some k_ ≠ (.slice Ao27 y309.length co27 : Value).ownBlock ∧ some k_ ≠ (.slice Ao31 y314.length co31 : Value).ownBlock ∧ some k_ ≠ (v320 : Value).ownBlock ∧ some k_ ≠ (.slice Ao36 y322.length co36 : Value).ownBlock ∧ some k_ ≠ (.slice Ao40 t325.length co40 : Value).ownBlock ∧ some k_ ≠ (.slice Ao41 y328.length co41 : Value).ownBlock ∧ some k_ ≠ (.slice Ao45 y332.length co45 : Value).ownBlock)) (Kd.R_apart' (Kd.R_apart' (Kd.R_apart' (Kd.R_apart' (Kd.R_apart' (HO347.out) (Kd.R_typed HO299.out) (by decide)) (Kd.R_typed HO304.out) (by decide)) (Kd.R_typed HO311.out) (by decide)) (Kd.R_typed HO316.out) (by decide)) (Kd.N_typed HO321.out) (by decide)) (fun k_ hk => ⟨hk.1.1.1.1.2,⟨hk.1.1.1.2,⟨hk.1.1.1.1.1.1.1.1.1.1.1.1.2,⟨hk.1.1.2,⟨hk.1.2,⟨hk.2,⟨hk.1.1.1.1.1.1.1.1.1.1.1.2,⟨hk.1.1.1.1.1.1.1.1.1.1.2,⟨hk.1.1.1.1.1.1.1.1.1.2,hk.1.1.1.1.1.1.1.1.2⟩⟩⟩⟩⟩⟩⟩⟩⟩))).2.1 (Kd.R_F (Kd.R_mono (ok' := (fun k_ => some k_ ≠ (.slice Ao19 y297.length co19 : Value).ownBlock ∧ some k_ ≠ (.slice Ao23 y302.length co23 : Value).ownBlock ∧ some k_ ≠ (.slice Ao44 t305.length co44 : Value).ownBlock ∧ some k_ ≠ (.slice Ao27 y309.length co27 : Value).ownBlock ∧ some k_ ≠ (.slice Ao31 y314.length co31 : Value).ownBlock ∧ some k_ ≠ (v320 : Value).ownBlock ∧ some k_ ≠ (.slice Ao36 y322.length co36 : Value).ownBlock ∧ some k_ ≠ (.slice Ao40 t325.length co40 : Value).ownBlock ∧ some k_ ≠ (.slice Ao41 y328.length co41 : Value).ownBlock ∧ some k_ ≠ (.slice Ao45 y332.length co45 : Value).ownBlock)) (Kd.R_apart' (Kd.R_apart' (Kd.R_apart' (Kd.R_apart' (Kd.R_apart' (HO347.out) (Kd.R_typed HO299.out) (by decide)) (Kd.R_typed HO304.out) (by decide)) (Kd.R_typed HO311.out) (by decide)) (Kd.R_typed HO316.out) (by decide)) (Kd.N_typed HO321.out) (by decide)) (fun k_ hk => ⟨hk.1.1.1.1.2,⟨hk.1.1.1.2,⟨hk.1.1.1.1.1.1.1.1.1.1.1.1.2,⟨hk.1.1.2,⟨hk.1.2,⟨hk.2,⟨hk.1.1.1.1.1.1.1.1.1.1.1.2,⟨hk.1.1.1.1.1.1.1.1.1.1.2,⟨hk.1.1.1.1.1.1.1.1.1.2,hk.1.1.1.1.1.1.1.1.2⟩⟩⟩⟩⟩⟩⟩⟩⟩))))) (Reps.none _ _))))));intro v349 w58 ho59 hb hg_ hnew_;clear hg_ hnew_;(first|rw [← Ny348.out] at ho59|(simp only [Int.reduceToNat] at ho59;rw [← Ny348.out] at ho59));have n0_ := am (Kd.R_below (rr HO299) hb);have n1_ := am (Kd.R_below (rr HO304) hb);have n2_ := am (Kd.R_below (rr HO308) hb);have n3_ := am (Kd.R_below (rr HO311) hb);have n4_ := am (Kd.R_below (rr HO316) hb);have n5_ := am (Kd.N_elder' (rn HO321) (Kd.N_base ho59) hb);have n6_ := am (Kd.R_below (rr HO324) hb);have n7_ := am (Kd.R_below (rr HO327) hb);have n8_ := am (Kd.R_below (rr HO330) hb);have n9_ := am (Kd.R_below (rr HO334) hb);have n10_ := am (Kd.N_lower ho59 (below_size (bb HB)));have n11_ := am (below_step (bb HB) hb);clear HO299 HO304 HO308 HO311 HO316 HO321 HO324 HO327 HO330 HO334 HB HO338 HO341 HO344 HO347;have HO299 := n0_;have HO304 := n1_;have HO308 := n2_;have HO311 := n3_;have HO316 := n4_;have HO321 := n5_;have HO324 := n6_;have HO327 := n7_;have HO330 := n8_;have HO334 := n9_;have HO350 := n10_;have HB := n11_;clear n0_ n1_ n2_ n3_ n4_ n5_ n6_ n7_ n8_ n9_ n10_ n11_;clear hb ho59;obtain ⟨Ao60,co60,eo60⟩ := Kd.N_slice HO321.out;subst eo60;obtain ⟨Ao61,co61,eo61⟩ := Kd.N_slice HO350.out;subst eo61)|(go_at_call 10;(with_reducible refine (privityref09_Same.calls k _ _ t319 _ _ y348 t351 _ ?side1 ?side2 ?side3 ?side4 A16.out).mono ?_);(case side1 => repeat (first|exact (Kd.N_reads' HO321.out).2.2|(with_reducible refine Kd.C_alloc ?_ _)|(with_reducible refine Kd.C_drewN ?_ _)|(with_reducible refine Kd.C_drew ?_)));(case side2 => exact (Kd.N_reads' HO321.out).2.1);(case side3 => repeat (first|exact (Kd.N_reads' HO350.out).2.2|(with_reducible refine Kd.C_alloc ?_ _)|(with_reducible refine Kd.C_drewN ?_ _)|(with_reducible refine Kd.C_drew ?_)));(case side4 => exact (Kd.N_reads' HO350.out).2.1);rintro e w' ⟨rfl,⟨nd,rfl⟩⟩))
        go_ret
        exact ⟨by first|rfl|(simp [errW_none,errW_some] <;> rfl)|(simp [*,errW_none,errW_some] <;> rfl),bb HB⟩
       ·rw [if_neg c15] at H
        have c15b0 : (t318 == 9) = false := beq_eq_false_iff_ne.mpr c15
        have c15b1 : (t318 != 9) = true := bne_iff_ne.mpr c15
        exact absurd (Option.some.inj H) (by rw [HR1.out];simp)
      ·rw [if_neg c14] at H
       have c14b0 : (t313 == 1) = false := beq_eq_false_iff_ne.mpr c14
       have c14b1 : (t313 != 1) = true := bne_iff_ne.mpr c14
       exact absurd (Option.some.inj H) (by rw [HR1.out];simp)
     ·rw [if_neg c13] at H
      have c13b0 : (t306 == 0) = false := beq_eq_false_iff_ne.mpr c13
      have c13b1 : (t306 != 0) = true := bne_iff_ne.mpr c13
      exact absurd (Option.some.inj H) (by rw [HR1.out];simp)
    ·replace c12 := Bool.eq_false_iff.mpr c12
     subst c12
     rw [if_neg (show ¬ (false = true) by decide)] at H
     exact absurd (Option.some.inj H) (by rw [HR1.out];simp)
   ·rw [if_neg c10] at H
    have c10b0 : (t301 == 0) = false := beq_eq_false_iff_ne.mpr c10
    have c10b1 : (t301 != 0) = true := bne_iff_ne.mpr c10
    exact absurd (Option.some.inj H) (by rw [HR1.out];simp)
  ·rw [if_neg c9] at H
   have c9b0 : (t300 == 5) = false := beq_eq_false_iff_ne.mpr c9
   have c9b1 : (t300 != 5) = true := bne_iff_ne.mpr c9
   exact absurd (Option.some.inj H) (by rw [HR1.out];simp)
 ·replace c8 := Bool.eq_false_iff.mpr c8
  subst c8
  rw [if_neg (show ¬ (false = true) by decide)] at H
  exact absurd (Option.some.inj H) (by rw [HR1.out];simp)
end Go.Proofs.Ytjnkkfdlcbcelaa.Pr
end
section
namespace Go.Proofs.Ytjnkkfdlcbcelaa.E
open Go.RowKit Go.Proofs.Ytjnkkfdlcbcelaa.Pr Go.Proofs.Ytjnkkfdlcbcelaa.Hw Go.Proofs.Ytjnkkfdlcbcelaa.Pl Go.Proofs.YtjnkkfdlcbcelaaW.PrintWords Go.Proofs.YtjnkkfdlcbcelaaW.PrintLast Go.Proofs.YtjnkkfdlcbcelaaW.PrintMore
theorem awake09 : Ev (fun k => privitylaw09_awake.f k) true := Ev.of (fun k => privitylaw09_awake.mono _) (k := 40) (by kernel_rfl)
end Go.Proofs.Ytjnkkfdlcbcelaa.E
end
section
namespace Go.Proofs.Ytjnkkfdlcbcelaa.Hw
open Go.RowKit Go.Proofs.Ytjnkkfdlcbcelaa.Pr Go.Proofs.YtjnkkfdlcbcelaaW.PrintWords Go.Proofs.YtjnkkfdlcbcelaaW.PrintLast Go.Proofs.YtjnkkfdlcbcelaaW.PrintMore Go.Proofs.Ytjnkkfdlcbcelaa.E
theorem goesV_ {P : Program} {ops : Array Oper} {Q : Exit → Act → World → Prop} {oi : Oper} {N : Option Tmp} {a : Act} {w : World} {K : Act → World → Prop} {f : FuncId} {fn : Func} {cb : Array Value} {x : Operand} {ars : Array Operand} {ts : Array TypeId}
  (hf : P.funcs[f]? = some fn) (hname : (fn.name == "runtime.NumGoroutine") = false) (hb : fn.body.isSome = true) (args0 args : Array Value)
  (hw : Region.wanted oi (yielded ops a.tmps) = true) (hN : oi.dst = N) (hop : oi.op = .call { callee := .value x,args := ars,argTypes := ts }) (hx : a.eval x = .func (.func f) #[] cb) (hargs : ars.map a.eval = args0) (happ : args0 ++ cb = args)
  (h : Calls P f args w fun e w' => ∃ v,e = .returned v ∧ K (a.put N v) w') : if Region.wanted oi (yielded ops a.tmps) = true then Oper.wp P oi a w K Q else K (a.put N undef) w := by
 refine call_ f args hw hN ?_ h
 have he := enters_ hf hname hb args w
 unfold execOp
 simp [hop,hx,resolve,Deferred.ofValue,invoke,hargs,happ,he]
theorem mkS_run {t e : TypeId} {z : Value} {b : Nat} (ht : Try.prog.underlying t = some (.slice e)) (hinfo : (Try.prog.info? e).map (fun i => (i.zero,i.size,i.bytes)) = some (some z,1,b)) (hz : z.cells = #[z]) (n : Nat) (hn : n ≤ 1000000) (hb : b ≤ 100) (w : World) :
  (Instr.makeSlice t (.int .i64 (n : Int)) (.int .i64 (n : Int))).run Try.prog w = .ok (.slice (some ⟨w.heap.size,0,none⟩) n n) (w.alloc (.cells (List.replicate n z).toArray e)) := by
 obtain ⟨i0,hi,hzz⟩ := Option.map_eq_some_iff.1 hinfo
 simp only [Prod.mk.injEq] at hzz
 obtain ⟨hz0,hz1,hz2⟩ := hzz
 have hr := run_make (P := Try.prog) w t e i0 z ht hi hz0 .i64 .i64 (n : Int) (n : Int) (by omega) (by omega)
  (by
   have h3 : ((i0.bytes * n : Nat) : Int) ≤ 281474976710656 := by
    have : i0.bytes * n ≤ 100 * 1000000 := Nat.mul_le_mul (by omega) hn
    omega
   rwa [Int.natCast_mul] at h3) (by omega)
 simp only [Int.toNat_natCast] at hr
 rw [hz1,Nat.mul_one,hz] at hr
 rw [hr]
 have e : madeCells #[z] n = (List.replicate n z).toArray := by
  apply Array.ext'
  rw [toList_madeCells_one]
 rw [e]
theorem rdR {p : Int} {l : List Int} (h : ∀ x ∈ l,Res p x) {n : Nat} (hn : n < l.length) : Res p (rd l (n : Int)) := by
 have e : rd l (n : Int) = l[n] := by unfold rd;rw [Int.toNat_natCast,List.getD_eq_getElem?_getD,List.getElem?_eq_getElem hn];rfl
 rw [e];exact h _ (List.getElem_mem _)
theorem infoShW : (Try.prog.info? 22).map (fun i => (i.zero,i.size,i.bytes)) = some (some (.int .u64 0),1,8) := by kernel_rfl
theorem infoShR : (Try.prog.info? 41).map (fun i => (i.zero,i.size,i.bytes)) = some (some (.slice none 0 0),1,24) := by kernel_rfl
def prL (op : Int → Int → Int) (l1 l2 : List Int) (n : Nat) : List Int := (List.zipWith op l1 l2).take n ++ List.replicate (l1.length - n) 0
theorem prL_len (op : Int → Int → Int) {l1 l2 : List Int} (hl : l1.length ≤ l2.length) {n : Nat} (hn : n ≤ l1.length) : (prL op l1 l2 n).length = l1.length := by
 unfold prL;simp;omega
theorem prL_zero (op : Int → Int → Int) (l1 l2 : List Int) : prL op l1 l2 0 = List.replicate l1.length 0 := by simp [prL]
theorem prL_all (op : Int → Int → Int) {l1 l2 : List Int} (hl : l1.length ≤ l2.length) : prL op l1 l2 l1.length = List.zipWith op l1 l2 := by
 unfold prL
 rw [Nat.sub_self,List.replicate_zero,List.append_nil,List.take_of_length_le (by simp;omega)]
theorem prL_set (op : Int → Int → Int) {l1 l2 : List Int} (hl : l1.length ≤ l2.length) {n : Nat} (hn : n < l1.length) : (prL op l1 l2 n).set n (op (rd l1 (n : Int)) (rd l2 (n : Int))) = prL op l1 l2 (n + 1) := by
 have e1 : rd l1 (n : Int) = l1[n] := by unfold rd;rw [Int.toNat_natCast,List.getD_eq_getElem?_getD,List.getElem?_eq_getElem hn];rfl
 have e2 : rd l2 (n : Int) = l2[n]'(by omega) := by unfold rd;rw [Int.toNat_natCast,List.getD_eq_getElem?_getD,List.getElem?_eq_getElem (by omega)];rfl
 have hz : n < (List.zipWith op l1 l2).length := by simp;omega
 have ez : (List.zipWith op l1 l2)[n] = op l1[n] (l2[n]'(by omega)) := by simp
 unfold prL
 rw [e1,e2,← ez,List.take_succ_eq_append_getElem hz,show l1.length - n = (l1.length - (n + 1)) + 1 from by omega,List.replicate_succ]
 have hln : ((List.zipWith op l1 l2).take n).length = n := by simp;omega
 rw [List.set_append_right _ _ (by omega),hln,Nat.sub_self,List.set_cons_zero,List.append_assoc]
 rfl
theorem nums_set (k : IntKind) (l : List Int) (n : Nat) (x : Int) : (nums k l).set n (.int k x) = nums k (l.set n x) := by simp [nums,List.map_set]
theorem blk_row {w : World} {bo : Nat} {l : List Int} (h : w.heap[bo]? = some (.cells (nums .u64 l).toArray 22 (0,0))) {base : Nat} (hb : base ≤ bo) (hn : l.length ≤ 1000000) {n : Nat} (hl : n = l.length) (ok : Nat → Prop) (hok : ok bo) :
  Kd.R (Kd.int .u64) 22 w base ok (.slice (some ⟨bo,0,none⟩) n n) l := by
 subst hl
 have hnl : (nums .u64 l).length = l.length := by simp [nums]
 refine R_made ?_ (fun b hb => ?_)
 ·refine ⟨by rw [hnl];omega,.inr ⟨bo,l.length,(nums .u64 l).toArray,rfl,hb,h,Nat.le_refl _,by simp only [maxLen];omega,by rw [List.size_toArray,hnl];omega,?_⟩⟩
  show (nums .u64 l).take (l.length * 1) = _
  exact List.take_of_length_le (by rw [hnl];omega)
 ·have e : (Value.slice (some ⟨bo,0,none⟩) l.length l.length).ownBlock = some bo := rfl
  rw [e] at hb;exact Option.some.inj hb ▸ hok
def DoesAt (p : Int) (op : Int → Int → Int) (bd bp : Nat) (w : World) : Prop :=
 ∀ (W : World),Below w.heap.size w W → ∀ (x y : Int),Res p x → Res p y →
  Calls Try.prog 51 #[.int .u64 x,.int .u64 y,.pointer (some ⟨bd,0,none⟩),.pointer (some ⟨bp,0,none⟩)] W fun e w' => e = .returned (.int .u64 (op x y)) ∧ Below W.heap.size W w'
theorem DoesAt.below {p : Int} {op : Int → Int → Int} {bd bp : Nat} {w w1 : World} (h : DoesAt p op bd bp w) (hb : Below w.heap.size w w1) : DoesAt p op bd bp w1 := fun W hW => h W (below_step hb hW)
set_option maxHeartbeats 4000000 in
set_option maxRecDepth 100000 in
theorem pairsW_walk {p : Int} (op : Int → Int → Int) (bd bp : Nat) (A1 : Option Addr) (c1 : Nat) (l1 : List Int) (A2 : Option Addr) (c2 : Nat) (l2 : List Int) (w : World)
  (hr1 : Kd.C (Kd.int .u64) w A1 l1.length l1) (hc1 : l1.length ≤ c1) (hr2 : Kd.C (Kd.int .u64) w A2 l2.length l2) (hc2 : l2.length ≤ c2) (hl : l1.length ≤ l2.length) (hn : l1.length ≤ 1000000)
  (h1 : ∀ x ∈ l1,Res p x) (h2 : ∀ x ∈ l2,Res p x) (hdo : DoesAt p op bd bp w) :
  Calls Try.prog 50 #[.slice A1 l1.length c1,.slice A2 l2.length c2,.func (.func 51) #[] #[.pointer (some ⟨bd,0,none⟩),.pointer (some ⟨bp,0,none⟩)]] w
   fun e w' => ∃ v0_ : Value,e = .returned (v0_) ∧ Kd.R (Kd.int .u64) 22 w' w.heap.size (fun _ => True) v0_ (List.zipWith op l1 l2) ∧ Below w.heap.size w w' := by
 have HR1 := am hr1
 have HR2 := am hr2
 have H1 := am h1
 have H2 := am h2
 have HD := am hdo
 obtain ⟨bo,hbo⟩ : ∃ b,b = w.heap.size := ⟨_,rfl⟩
 have hmk := mkS_run (t := 41) (e := 22) (z := .int .u64 0) Try.underlying41 infoShW rfl l1.length hn (by decide) w
 rw [← hbo] at hmk
 have HB0 := am (below_alloc (Below.refl w.heap.size w) (.cells (List.replicate l1.length (Value.int .u64 0)).toArray 22))
 have BK0 := am (show (w.alloc (.cells (List.replicate l1.length (Value.int .u64 0)).toArray 22)).heap[bo]? = some (.cells (nums .u64 (prL op l1 l2 0)).toArray 22 (0,0)) by
  rw [prL_zero,show nums .u64 (List.replicate l1.length 0) = List.replicate l1.length (Value.int .u64 0) from by simp [nums],hbo];exact blk_new w _)
 have HBO := am hbo
 clear hr1 hr2 h1 h2 hdo hbo
 go_enter Try.func50,Try.ntmps50
 go_wp2
 clear hmk
 go_loopg [8,14] l1.length (fun kq v8 v14 w' => ∃ n : Nat,v14 = .int .i64 (n : Int) ∧ Aside0 (kq + n = l1.length) ∧ Aside0 (w'.heap[bo]? = some (.cells (nums .u64 (prL op l1 l2 n)).toArray 22 (0,0))) ∧ Aside0 (Below w.heap.size w w'))
 case atStart => exact ⟨0,rfl,⟨rfl⟩,BK0,HB0⟩
 case round =>
  clear BK0 HB0
  obtain ⟨n,rfl,HK,BK,HB⟩ := hrel
  by_cases hlt : n < l1.length
  ·have q1 : ((n : Int) < (l1.length : Int)) = True := eq_true (by omega)
   have q2 : decide (n < l1.length) = true := decide_eq_true hlt
   have p1 : ((0 : Int) ≤ (n : Int)) = True := eq_true (by omega)
   have p2 : ((n : Int) < (l2.length : Int)) = True := eq_true (by omega)
   obtain ⟨ad1,e1,hy1⟩ := Kd.at_int (Kd.C_below HR1.out HB.out) (n : Int) (by omega) (by omega)
   cases e1
   obtain ⟨ad2,e2,hy2⟩ := Kd.at_int (Kd.C_below HR2.out HB.out) (n : Int) (by omega) (by omega)
   cases e2
   rw [Int.toNat_natCast] at hy1 hy2
   have hx1 : Res p (rd l1 (n : Int)) := rdR H1.out hlt
   have hx2 : Res p (rd l2 (n : Int)) := rdR H2.out (by omega)
   have HC := am (fun W (hW : Below w.heap.size w W) => HD.out W hW _ _ hx1 hx2)
   have HSet := am (prL_set op hl hlt)
   have hlen := prL_len op hl (n := n) (by omega)
   obtain ⟨x1,ex1⟩ : ∃ x,x = rd l1 (n : Int) := ⟨_,rfl⟩
   obtain ⟨x2,ex2⟩ : ∃ x,x = rd l2 (n : Int) := ⟨_,rfl⟩
   rw [← ex1] at hy1 HC HSet
   rw [← ex2] at hy2 HC HSet
   have HY1 := am hy1
   have HY2 := am hy2
   clear hx1 hx2 ex1 ex2
   go_wp2
   refine start_ (n := 14) (S := (fun w' => w'.cell? (ad1.add n) = some (.int .u64 x1) ∧ w'.cell? (ad2.add n) = some (.int .u64 x2))) (ds := [13]) (bz 14 0) (by kernel_rfl) rfl rfl ⟨hy1,hy2⟩ (fun hHeld => ?_)
   refine pu 0 17 (bz 14 1) ?_
   refine pu 1 18 (bz 14 3) ?_
   refine pu 2 19 (bz 14 7) ?_
   refine pu 3 20 (bz 14 15) ?_
   refine pu 4 21 (bz 14 31) ?_
   refine pu 5 22 (bz 14 63) ?_
   refine tu 6 23 (bz 14 127) hHeld ?_
   refine pu 7 24 (bz 14 255) ?_
   refine pu 8 25 (bz 14 511) ?_
   refine pu 9 26 (bz 14 1023) ?_
   refine tu 10 27 (bz 14 2047) hHeld ?_
   refine one_ (i := 11) (N := some 28) (bz 14 4095) rfl rfl (by kernel_rfl) (by decide) (fun K hK => ?_)
   refine goesV_ Try.func51 (by kernel_rfl) rfl #[.int .u64 x1,.int .u64 x2] #[.int .u64 x1,.int .u64 x2,.pointer (some ⟨bd,0,none⟩),.pointer (some ⟨bp,0,none⟩)] (by rfl) rfl rfl rfl (by (try simp only [List.map_toArray,List.map_cons,List.map_nil]);rfl) (by simp) ?_
   with_reducible refine (HC.out _ (below_drew HB.out)).mono ?_
   rintro e w4 ⟨rfl,hb4⟩
   refine ⟨_,rfl,?_⟩
   refine hK.out _ _ ⟨pw_cell_below hb4 HY1.out,pw_cell_below hb4 HY2.out⟩ (fun hHeld => ?_)
   clear hK K
   refine nm 28 ?_
   have HB4 := am (below_step (below_drew HB.out) hb4)
   have BK4 := am (blk_below (blk_drew BK.out) hb4)
   have f4 := blk_frozen BK4.out n
   have c4 : w4.cell? ⟨bo,n,none⟩ = some (.int .u64 ((prL op l1 l2 n)[n]'(by omega))) := by
    rw [blk_cell BK4.out n,List.getElem?_toArray]
    unfold nums
    rw [List.getElem?_map,List.getElem?_eq_getElem (by omega)];rfl
   clear hb4
   refine pu 12 29 (bz 14 8191) ?_
   refine last_ (i := 13) (N := none) (bz 14 16383) rfl rfl (by kernel_rfl) (by decide) (fun K hK => ?_)
   refine skip_ (w1 := ?_) (by rfl) rfl ?_ ?_
   rotate_left
   ·go_simp
    rfl
   refine hK.out _ _ ?_
   clear hK K
   refine done_ (by kernel_rfl) ?_
   have HB5 := am (HB4.out.setCell (p := ⟨bo,n,none⟩) (by rw [← HBO.out];exact Nat.le_refl _) (.int .u64 (op x1 x2)))
   have BK5 := am (show (w4.setCell ⟨bo,n,none⟩ (.int .u64 (op x1 x2))).heap[bo]? = some (.cells (nums .u64 (prL op l1 l2 (n + 1))).toArray 22 (0,0)) from
    blk_put BK4.out n _ (by rw [List.setIfInBounds_toArray,nums_set,HSet.out]))
   go_wp2
   go_roundg (l1.length - (n + 1))
   case measure => have := HK.out;omega
   case rel => exact ⟨n + 1,by go_num,⟨by omega⟩,BK5,HB5⟩
  ·have q1 : decide ((n : Int) < (l1.length : Int)) = false := decide_eq_false (by omega)
   have q2 : decide (n < l1.length) = false := decide_eq_false hlt
   have hnl : n = l1.length := by have := HK.out;omega
   have hfin : prL op l1 l2 n = List.zipWith op l1 l2 := by rw [hnl];exact prL_all op hl
   have HF := am hfin
   clear hfin hnl
   go_wp2
   first|go_ret|((try simp only [Exit.inBlock,Exit.then]);refine bodyPost_ret (results_tmp rfl _ _ _) rfl ?_)
   have hzl : (List.zipWith op l1 l2).length = l1.length := by simp;omega
   refine ⟨_,rfl,blk_row (by rw [← HF.out];exact BK.out) (by rw [← HBO.out];exact Nat.le_refl _) (by omega) (by omega) _ trivial,HB.out⟩
set_option maxHeartbeats 2000000 in
set_option maxRecDepth 100000 in
theorem wordsR_walk {p : Int} (op : Int → Int → Int) (bd bp : Nat) (A1 : Option Addr) (c1 : Nat) (l1 : List Int) (A2 : Option Addr) (c2 : Nat) (l2 : List Int) (w : World)
  (hr1 : Kd.C (Kd.int .u64) w A1 l1.length l1) (hc1 : l1.length ≤ c1) (hr2 : Kd.C (Kd.int .u64) w A2 l2.length l2) (hc2 : l2.length ≤ c2) (hl : l1.length ≤ l2.length) (hn : l1.length ≤ 1000000)
  (h1 : ∀ x ∈ l1,Res p x) (h2 : ∀ x ∈ l2,Res p x) (hdo : DoesAt p op bd bp w) :
  Calls Try.prog 49 #[.slice A1 l1.length c1,.slice A2 l2.length c2,.pointer (some ⟨bd,0,none⟩),.pointer (some ⟨bp,0,none⟩)] w
   fun e w' => ∃ v0_ : Value,e = .returned (v0_) ∧ Kd.R (Kd.int .u64) 22 w' w.heap.size (fun _ => True) v0_ (List.zipWith op l1 l2) ∧ Below w.heap.size w w' := by
 have HP := am (pairsW_walk op bd bp A1 c1 l1 A2 c2 l2 w hr1 hc1 hr2 hc2 hl hn h1 h2 hdo)
 clear hr1 hr2 h1 h2 hdo
 go_enter Try.func49,Try.ntmps49
 go_wp2_with (first|(go_at_call 50;(with_reducible refine HP.out.mono ?_);rintro e w1 ⟨v1,rfl,ho1,hb1⟩;have HO1 := am ho1;have HB1 := am hb1;clear ho1 hb1))
 first|go_ret|((try simp only [Exit.inBlock,Exit.then]);refine bodyPost_ret (results_tmp rfl _ _ _) rfl ?_)
 exact ⟨_,rfl,HO1.out,HB1.out⟩
structure Rws (w : World) (base bo m : Nat) (vs : List Value) (rows : List (List Int)) : Prop where
 blk : w.heap[bo]? = some (.cells (vs ++ List.replicate (m - vs.length) (Value.slice none 0 0)).toArray 41 (0,0))
 len : rows.length = vs.length
 each : ∀ (j : Nat) v r,vs[j]? = some v → rows[j]? = some r → Kd.R (Kd.int .u64) 22 w base (fun b => b ≠ bo) v r
 apart : ∀ (i j b : Nat) u v,vs[i]? = some u → vs[j]? = some v → u.ownBlock = some b → v.ownBlock = some b → i = j
theorem Rws.below {w w1 : World} {base bo m : Nat} {vs : List Value} {rows : List (List Int)} (h : Rws w base bo m vs rows) (hb : Below w.heap.size w w1) : Rws w1 base bo m vs rows :=
 ⟨blk_below h.blk hb,h.len,fun j v r hv hr => Kd.R_below (h.each j v r hv hr) hb,h.apart⟩
theorem Rws.add {w w1 : World} {base bo m : Nat} {vs : List Value} {rows : List (List Int)} {v : Value} {r : List Int} (h : Rws w base bo m vs rows) (hb : Below w.heap.size w w1) (hv : Kd.R (Kd.int .u64) 22 w1 w.heap.size (fun _ => True) v r) (hbase : base ≤ w.heap.size) (hlt : vs.length < m) :
  Rws (w1.setCell ⟨bo,vs.length,none⟩ v) base bo m (vs ++ [v]) (rows ++ [r]) := by
 have h1 := h.below hb
 have hbo : bo < w.heap.size := blk_lt h.blk
 refine ⟨blk_put h1.blk vs.length v ?_,by simp [h.len],?_,?_⟩
 ·rw [List.setIfInBounds_toArray]
  congr 1
  rw [List.set_append_right _ _ (Nat.le_refl _),Nat.sub_self,List.length_append,List.length_cons,List.length_nil,show m - vs.length = (m - (vs.length + 1)) + 1 from by omega,List.replicate_succ,List.set_cons_zero,List.append_assoc]
  rfl
 ·intro j u r' hu hr'
  have hu1 : Kd.R (Kd.int .u64) 22 w1 base (fun b => b ≠ bo) u r' := by
   rcases Nat.lt_or_ge j vs.length with hj|hj
   ·rw [List.getElem?_append_left hj] at hu
    rw [List.getElem?_append_left (by rw [h.len];exact hj)] at hr'
    exact h1.each j u r' hu hr'
   ·have hj2 : j = vs.length := by have := (List.getElem?_eq_some_iff.1 hu).1;simp at this;omega
    subst hj2
    rw [List.getElem?_append_right (Nat.le_refl _),Nat.sub_self] at hu
    rw [List.getElem?_append_right (by rw [h.len];exact Nat.le_refl _),h.len,Nat.sub_self] at hr'
    obtain rfl := Option.some.inj hu
    obtain rfl := Option.some.inj hr'
    refine Kd.R_lower (Kd.R_mono (Kd.R_bound hv) fun k hk => ?_) hbase
    have := hk.2.1
    show k ≠ bo
    omega
  exact R_setfar hu1 fun k hk => hk
 ·intro i j b u u' hu hu' hi hj
  have hold : ∀ (k : Nat) y,k < vs.length → (vs ++ [v])[k]? = some y → y.ownBlock = some b → b < w.heap.size := by
   intro k y hk hy hyb
   rw [List.getElem?_append_left hk] at hy
   exact Kd.R_lt (h.each k y _ hy (List.getElem?_eq_getElem (by rw [h.len];exact hk))) b hyb
  have hnew : ∀ (k : Nat) y,¬ k < vs.length → (vs ++ [v])[k]? = some y → y.ownBlock = some b → k = vs.length ∧ w.heap.size ≤ b := by
   intro k y hk hy hyb
   have hk2 : k = vs.length := by have := (List.getElem?_eq_some_iff.1 hy).1;simp at this;omega
   subst hk2
   rw [List.getElem?_append_right (Nat.le_refl _),Nat.sub_self] at hy
   obtain rfl := Option.some.inj hy
   exact ⟨rfl,Kd.R_base hv b hyb⟩
  by_cases h1 : i < vs.length
  ·by_cases h2 : j < vs.length
   ·rw [List.getElem?_append_left h1] at hu
    rw [List.getElem?_append_left h2] at hu'
    exact h.apart i j b u u' hu hu' hi hj
   ·have a := hold i u h1 hu hi
    have c := (hnew j u' h2 hu' hj).2
    omega
  ·by_cases h2 : j < vs.length
   ·have a := hold j u' h2 hu' hj
    have c := (hnew i u h1 hu hi).2
    omega
   ·rw [(hnew i u h1 hu hi).1,(hnew j u' h2 hu' hj).1]
theorem Rws.own {w : World} {base bo m : Nat} {vs : List Value} {rows : List (List Int)} (h : Rws w base bo m vs rows) (hb : base ≤ bo) (hm : vs.length = m) (hn : m ≤ 1000000) :
  Kd.S (Kd.slice 22 (Kd.int .u64)) 41 w base (fun _ => True) (.slice (some ⟨bo,0,none⟩) m m) rows := by
 have hblk := h.blk
 rw [hm,Nat.sub_self,List.replicate_zero,List.append_nil] at hblk
 obtain ⟨f,hf⟩ := Kd.reps_tag (d := Kd.slice 22 (Kd.int .u64)) (w := w) (base := base) (ok := fun k => True ∧ some k ≠ (Value.slice (some ⟨bo,0,none⟩) m m).ownBlock) (xs := rows) (inner := vs)
  (fun j k => k ≠ bo ∧ ∃ v,vs[j]? = some v ∧ v.ownBlock = some k) (fun i j k hi hj => by obtain ⟨_,u,hu,hub⟩ := hi;obtain ⟨_,v,hv,hvb⟩ := hj;exact h.apart i j k u v hu hv hub hvb)
  (fun j k hk => ⟨trivial,fun e => hk.1 (Option.some.inj e)⟩) (by show vs.length = rows.length * 1;rw [h.len,Nat.mul_one]) (fun j x hx => by
   have hj : j < vs.length := by have := (List.getElem?_eq_some_iff.1 hx).1;rw [h.len] at this;exact this
   have hv : vs[j]? = some vs[j] := List.getElem?_eq_getElem hj
   have hcs : (vs.drop (j * 1)).take 1 = [vs[j]] := by rw [Nat.mul_one,List.drop_eq_getElem_cons hj];rfl
   show ∃ v,(vs.drop (j * 1)).take 1 = [v] ∧ _
   refine ⟨vs[j],hcs,?_⟩
   have hR := h.each j _ x hv hx
   exact ⟨fun k hk => ⟨hR.1 k hk,_,hv,hk⟩,hR.2.imp_ fun _ _ hp => hp⟩)
 refine ⟨f,fun _ _ => trivial,vs,?_,?_⟩
 ·rw [List.length_zipIdx,h.len,hm]
  refine ⟨by rw [hm];show m = m * 1;omega,.inr ⟨bo,m,vs.toArray,rfl,hb,hblk,Nat.le_refl _,by simp only [maxLen];omega,by rw [List.size_toArray,hm];show m = m * 1;omega,?_⟩⟩
  show vs.take (m * 1) = vs
  exact List.take_of_length_le (by omega)
 ·exact hf
def rowsZ (op : Int → Int → Int) (l1 l2 : List (List Int)) : List (List Int) := List.zipWith (List.zipWith op) l1 l2
set_option maxHeartbeats 4000000 in
set_option maxRecDepth 100000 in
theorem pairsR_walk {p : Int} (op : Int → Int → Int) (bd bp : Nat) (A1 : Option Addr) (c1 : Nat) (l1 : List (List Int)) (A2 : Option Addr) (c2 : Nat) (l2 : List (List Int)) (w : World)
  (hr1 : Kd.C (Kd.slice 22 (Kd.int .u64)) w A1 l1.length l1) (hc1 : l1.length ≤ c1) (hr2 : Kd.C (Kd.slice 22 (Kd.int .u64)) w A2 l2.length l2) (hc2 : l2.length ≤ c2) (hl : l1.length ≤ l2.length) (hn : l1.length ≤ 1000000)
  (hx : ∀ i : Nat,i < l1.length → (rd_L1 l1 (i : Int)).length ≤ (rd_L1 l2 (i : Int)).length ∧ (rd_L1 l1 (i : Int)).length ≤ 1000000 ∧ (∀ x ∈ rd_L1 l1 (i : Int),Res p x) ∧ (∀ x ∈ rd_L1 l2 (i : Int),Res p x)) (hdo : DoesAt p op bd bp w) :
  Calls Try.prog 48 #[.slice A1 l1.length c1,.slice A2 l2.length c2,.func (.func 49) #[] #[.pointer (some ⟨bd,0,none⟩),.pointer (some ⟨bp,0,none⟩)]] w
   fun e w' => ∃ v0_ : Value,e = .returned (v0_) ∧ Kd.S (Kd.slice 22 (Kd.int .u64)) 41 w' w.heap.size (fun _ => True) v0_ (rowsZ op l1 l2) ∧ Below w.heap.size w w' := by
 have HR1 := am hr1
 have HR2 := am hr2
 have HX := am hx
 have HD := am hdo
 obtain ⟨bo,hbo⟩ : ∃ b,b = w.heap.size := ⟨_,rfl⟩
 have hmk := mkS_run (t := 25) (e := 41) (z := .slice none 0 0) Try.underlying25 infoShR rfl l1.length hn (by decide) w
 rw [← hbo] at hmk
 have HB0 := am (below_alloc (Below.refl w.heap.size w) (.cells (List.replicate l1.length (Value.slice none 0 0)).toArray 41))
 have BK0 := am (show Rws (w.alloc (.cells (List.replicate l1.length (Value.slice none 0 0)).toArray 41)) w.heap.size bo l1.length [] ((rowsZ op l1 l2).take 0) from
  ⟨by rw [hbo];exact blk_new w _,by simp,fun j v r hv => by simp at hv,fun i j b u v hu => by simp at hu⟩)
 have HBO := am hbo
 clear hr1 hr2 hx hdo hbo
 go_enter Try.func48,Try.ntmps48
 go_wp2
 clear hmk
 go_loopg [8,14] l1.length (fun kq v8 v14 w' => ∃ (n : Nat) (vs : List Value),v14 = .int .i64 (n : Int) ∧ Aside0 (kq + n = l1.length) ∧ Aside0 (vs.length = n) ∧ Aside0 (Rws w' w.heap.size bo l1.length vs ((rowsZ op l1 l2).take n)) ∧ Aside0 (Below w.heap.size w w'))
 case atStart => exact ⟨0,[],rfl,⟨rfl⟩,⟨rfl⟩,BK0,HB0⟩
 case round =>
  clear BK0 HB0
  obtain ⟨n,vs,rfl,HK,HV,BK,HB⟩ := hrel
  by_cases hlt : n < l1.length
  ·have q1 : ((n : Int) < (l1.length : Int)) = True := eq_true (by omega)
   have q2 : decide (n < l1.length) = true := decide_eq_true hlt
   have p1 : ((0 : Int) ≤ (n : Int)) = True := eq_true (by omega)
   have p2 : ((n : Int) < (l2.length : Int)) = True := eq_true (by omega)
   obtain ⟨ad1,A4,c4,e1,hy1,hc4,hC4⟩ := at_L1 (Kd.C_below HR1.out HB.out) (n : Int) (by omega) (by omega)
   cases e1
   obtain ⟨ad2,A5,c5,e2,hy2,hc5,hC5⟩ := at_L1 (Kd.C_below HR2.out HB.out) (n : Int) (by omega) (by omega)
   cases e2
   rw [Int.toNat_natCast] at hy1 hy2
   obtain ⟨hx1,hx2,hx3,hx4⟩ := HX.out n hlt
   have hz : (rowsZ op l1 l2).take (n + 1) = (rowsZ op l1 l2).take n ++ [List.zipWith op (rd_L1 l1 (n : Int)) (rd_L1 l2 (n : Int))] := by
    have e1 : rd_L1 l1 (n : Int) = l1[n] := by unfold rd_L1;rw [Int.toNat_natCast,List.getD_eq_getElem?_getD,List.getElem?_eq_getElem hlt];rfl
    have e2 : rd_L1 l2 (n : Int) = l2[n]'(by omega) := by unfold rd_L1;rw [Int.toNat_natCast,List.getD_eq_getElem?_getD,List.getElem?_eq_getElem (by omega)];rfl
    have hzl : n < (rowsZ op l1 l2).length := by unfold rowsZ;simp;omega
    have e3 : (rowsZ op l1 l2)[n] = List.zipWith op l1[n] (l2[n]'(by omega)) := by simp [rowsZ]
    rw [List.take_succ_eq_append_getElem hzl,e1,e2,e3]
   obtain ⟨y1,ey1⟩ : ∃ x,x = rd_L1 l1 (n : Int) := ⟨_,rfl⟩
   obtain ⟨y2,ey2⟩ : ∃ x,x = rd_L1 l2 (n : Int) := ⟨_,rfl⟩
   rw [← ey1] at hy1 hz hx1 hx2 hx3 hc4 hC4
   rw [← ey2] at hy2 hz hx1 hx4 hc5 hC5
   have hw := wordsR_walk op bd bp A4 c4 y1 A5 c5 y2 wr.drew (Kd.C_drew hC4) hc4 (Kd.C_drew hC5) hc5 hx1 hx2 hx3 hx4 (DoesAt.below HD.out (below_drew HB.out))
   obtain ⟨z,ez⟩ : ∃ x,x = List.zipWith op y1 y2 := ⟨_,rfl⟩
   rw [← ez] at hw hz
   have HW := am hw
   have HZ := am hz
   have HY1 := am hy1
   have HY2 := am hy2
   clear hx1 hx2 hx3 hx4 ey1 ey2 ez hw hz hc4 hC4 hc5 hC5
   go_wp2
   refine start_ (n := 14) (S := (fun w' => w'.cell? (ad1.add n) = some (.slice A4 y1.length c4) ∧ w'.cell? (ad2.add n) = some (.slice A5 y2.length c5))) (ds := [13]) (bz 14 0) (by kernel_rfl) rfl rfl ⟨hy1,hy2⟩ (fun hHeld => ?_)
   refine pu 0 17 (bz 14 1) ?_
   refine pu 1 18 (bz 14 3) ?_
   refine pu 2 19 (bz 14 7) ?_
   refine pu 3 20 (bz 14 15) ?_
   refine pu 4 21 (bz 14 31) ?_
   refine pu 5 22 (bz 14 63) ?_
   refine tu 6 23 (bz 14 127) hHeld ?_
   refine pu 7 24 (bz 14 255) ?_
   refine pu 8 25 (bz 14 511) ?_
   refine pu 9 26 (bz 14 1023) ?_
   refine tu 10 27 (bz 14 2047) hHeld ?_
   refine one_ (i := 11) (N := some 28) (bz 14 4095) rfl rfl (by kernel_rfl) (by decide) (fun K hK => ?_)
   refine goesV_ Try.func49 (by kernel_rfl) rfl #[.slice A4 y1.length c4,.slice A5 y2.length c5] #[.slice A4 y1.length c4,.slice A5 y2.length c5,.pointer (some ⟨bd,0,none⟩),.pointer (some ⟨bp,0,none⟩)] (by rfl) rfl rfl rfl (by (try simp only [List.map_toArray,List.map_cons,List.map_nil]);rfl) (by simp) ?_
   with_reducible refine HW.out.mono ?_
   rintro e w4 ⟨v4,rfl,ho4,hb4⟩
   refine ⟨_,rfl,?_⟩
   have HO4 := am ho4
   have HBW := am hb4
   refine hK.out _ _ ⟨pw_cell_below hb4 HY1.out,pw_cell_below hb4 HY2.out⟩ (fun hHeld => ?_)
   clear hK K
   refine nm 28 ?_
   have HB4 := am (below_step (below_drew HB.out) hb4)
   have BK4 := am (BK.out.below (w1 := w4) (below_step (below_drew (Below.refl _ _)) hb4))
   have f4 := blk_frozen BK4.out.blk n
   have hvl := HV.out
   have c4' : w4.cell? ⟨bo,n,none⟩ = some (.slice none 0 0) := by
    rw [blk_cell BK4.out.blk n,List.getElem?_toArray,List.getElem?_append_right (by omega),List.getElem?_replicate,if_pos (by omega)]
   obtain ⟨A6,c6,e6⟩ := Kd.R_slice HO4.out
   subst e6
   clear hb4 ho4 hvl
   refine pu 12 29 (bz 14 8191) ?_
   refine last_ (i := 13) (N := none) (bz 14 16383) rfl rfl (by kernel_rfl) (by decide) (fun K hK => ?_)
   refine skip_ (w1 := ?_) (by rfl) rfl ?_ ?_
   rotate_left
   ·go_simp
    rfl
   refine hK.out _ _ ?_
   clear hK K
   refine done_ (by kernel_rfl) ?_
   have HB5 := am (HB4.out.setCell (p := ⟨bo,n,none⟩) (by rw [← HBO.out];exact Nat.le_refl _) (.slice A6 z.length c6))
   have hbs := below_size HB.out
   have BK5 := am (show Rws (w4.setCell ⟨bo,n,none⟩ (.slice A6 z.length c6)) w.heap.size bo l1.length (vs ++ [.slice A6 z.length c6]) ((rowsZ op l1 l2).take (n + 1)) by
    have := BK.out.add (w1 := w4) (v := .slice A6 z.length c6) (r := z) (below_step (below_drew (Below.refl _ _)) HBW.out) HO4.out hbs (by rw [HV.out];exact hlt)
    rw [HV.out] at this
    rw [HZ.out]
    exact this)
   clear hbs
   go_wp2
   go_roundg (l1.length - (n + 1))
   case measure => have := HK.out;omega
   case rel => exact ⟨n + 1,vs ++ [.slice A6 z.length c6],by go_num,⟨by omega⟩,⟨by rw [List.length_append,HV.out];rfl⟩,BK5,HB5⟩
  ·have q1 : decide ((n : Int) < (l1.length : Int)) = false := decide_eq_false (by omega)
   have q2 : decide (n < l1.length) = false := decide_eq_false hlt
   have hnl : n = l1.length := by have := HK.out;omega
   have hzl : (rowsZ op l1 l2).length = l1.length := by unfold rowsZ;simp;omega
   have HF := am (show (rowsZ op l1 l2).take n = rowsZ op l1 l2 from List.take_of_length_le (by omega))
   have HN := am hnl
   clear hnl hzl
   go_wp2
   first|go_ret|((try simp only [Exit.inBlock,Exit.then]);refine bodyPost_ret (results_tmp rfl _ _ _) rfl ?_)
   refine ⟨_,rfl,?_,HB.out⟩
   rw [← HF.out]
   exact BK.out.own (by rw [← HBO.out];exact Nat.le_refl _) (by rw [HV.out,HN.out]) hn
set_option maxHeartbeats 2000000 in
set_option maxRecDepth 100000 in
theorem words_walk {p : Int} (op : Int → Int → Int) (g : Fn) (cb : Array Value) (A1 : Option Addr) (c1 : Nat) (l1 : List (List Int)) (A2 : Option Addr) (c2 : Nat) (l2 : List (List Int)) (w : World)
  (hr1 : Kd.C (Kd.slice 22 (Kd.int .u64)) w A1 l1.length l1) (hc1 : l1.length ≤ c1) (hr2 : Kd.C (Kd.slice 22 (Kd.int .u64)) w A2 l2.length l2) (hc2 : l2.length ≤ c2) (hl : l1.length ≤ l2.length) (hn : l1.length ≤ 1000000)
  (hx : ∀ i : Nat,i < l1.length → (rd_L1 l1 (i : Int)).length ≤ (rd_L1 l2 (i : Int)).length ∧ (rd_L1 l1 (i : Int)).length ≤ 1000000 ∧ (∀ x ∈ rd_L1 l1 (i : Int),Res p x) ∧ (∀ x ∈ rd_L1 l2 (i : Int),Res p x))
  (hdo : ∀ (bd bp : Nat) (W : World),Below w.heap.size w W → W.heap[bd]? = some (.cells #[.func g #[] cb] 53 (0,0)) → W.heap[bp]? = some (.cells #[.int .u64 p] 22 (0,0)) → DoesAt p op bd bp W) :
  Calls Try.prog 33 #[.int .u64 p,.slice A1 l1.length c1,.slice A2 l2.length c2,.func g #[] cb] w
   fun e w' => ∃ v0_ : Value,e = .returned (v0_) ∧ Kd.S (Kd.slice 22 (Kd.int .u64)) 41 w' w.heap.size (fun _ => True) v0_ (rowsZ op l1 l2) ∧ Below w.heap.size w w' := by
 have hbA := below_alloc (Below.refl w.heap.size w) (.cells #[.int .u64 p] 22)
 have hbB := below_alloc hbA (.cells #[.func g #[] cb] 53)
 have hd := hdo (w.heap.size + 1) w.heap.size ((w.alloc (.cells #[.int .u64 p] 22)).alloc (.cells #[.func g #[] cb] 53)) hbB (by
  have := blk_new (w.alloc (.cells #[.int .u64 p] 22)) (Obj.cells #[.func g #[] cb] 53)
  rwa [show (w.alloc (.cells #[.int .u64 p] 22)).heap.size = w.heap.size + 1 from Array.size_push _] at this) (blk_alloc (blk_new w _) _)
 have HP := am (pairsR_walk op (w.heap.size + 1) w.heap.size A1 c1 l1 A2 c2 l2 _ (Kd.C_below hr1 hbB) hc1 (Kd.C_below hr2 hbB) hc2 hl hn hx hd)
 have HBB := am hbB
 clear hr1 hr2 hx hdo hd hbA hbB
 go_enter Try.func33,Try.ntmps33
 go_wp2_with (first|(go_at_call 48;(with_reducible refine HP.out.mono ?_);rintro e w1 ⟨v1,rfl,ho1,hb1⟩;have HO1 := am (Kd.S_lower ho1 (below_size HBB.out));have HB1 := am (below_step HBB.out hb1);clear ho1 hb1))
 first|go_ret|((try simp only [Exit.inBlock,Exit.then]);refine bodyPost_ret (results_tmp rfl _ _ _) rfl ?_)
 exact ⟨_,rfl,HO1.out,HB1.out⟩
theorem does_add {p : Int} (hp : Supp p) (bd bp : Nat) (w : World) (h1 : w.heap[bd]? = some (.cells #[.func (.func 26) #[] #[]] 53 (0,0))) (h2 : w.heap[bp]? = some (.cells #[.int .u64 p] 22 (0,0))) :
  DoesAt p (fun x y => (x + y) % p) bd bp w := by
 intro W hW x y hx hy
 have c1 := blk_cell (blk_below h1 hW) 0
 have c2 := blk_cell (blk_below h2 hW) 0
 simp only [List.getElem?_toArray,List.getElem?_cons_zero] at c1 c2
 obtain ⟨k,hk⟩ := (add_ev hp hx hy).rounds
 have HK := am hk
 clear hk h1 h2
 go_enter Try.func51,Try.ntmps51
 go_wp2_with (first|(go_at_call 26;(with_reducible refine (field_Add.calls k _ _ _ ((x + y) % p) _ HK.out).mono ?_);rintro e w' ⟨rfl,⟨nd,rfl⟩⟩))
 first|go_ret|((try simp only [Exit.inBlock,Exit.then]);refine bodyPost_ret (results_tmp rfl _ _ _) rfl ?_)
 exact ⟨rfl,pw_below_drewN (Below.refl _ _) _⟩
theorem does_sub {p : Int} (hp : Supp p) (bd bp : Nat) (w : World) (h1 : w.heap[bd]? = some (.cells #[.func (.func 25) #[] #[]] 53 (0,0))) (h2 : w.heap[bp]? = some (.cells #[.int .u64 p] 22 (0,0))) :
  DoesAt p (fun x y => (x - y) % p) bd bp w := by
 intro W hW x y hx hy
 have c1 := blk_cell (blk_below h1 hW) 0
 have c2 := blk_cell (blk_below h2 hW) 0
 simp only [List.getElem?_toArray,List.getElem?_cons_zero] at c1 c2
 obtain ⟨k,hk⟩ := (sub_ev hp hx hy).rounds
 have HK := am hk
 clear hk h1 h2
 go_enter Try.func51,Try.ntmps51
 go_wp2_with (first|(go_at_call 25;(with_reducible refine (field_Sub.calls k _ _ _ ((x - y) % p) _ HK.out).mono ?_);rintro e w' ⟨rfl,⟨nd,rfl⟩⟩))
 first|go_ret|((try simp only [Exit.inBlock,Exit.then]);refine bodyPost_ret (results_tmp rfl _ _ _) rfl ?_)
 exact ⟨rfl,pw_below_drewN (Below.refl _ _) _⟩
theorem does_mul {p c : Int} (hp : Supp p) (hc : Res p c) (bd bp bk : Nat) (w : World) (h1 : w.heap[bd]? = some (.cells #[.func (.func 35) #[] #[.pointer (some ⟨bk,0,none⟩)]] 53 (0,0))) (h2 : w.heap[bp]? = some (.cells #[.int .u64 p] 22 (0,0))) (h3 : w.heap[bk]? = some (.cells #[.int .u64 c] 22 (0,0))) :
  DoesAt p (fun x y => (c * x) % p) bd bp w := by
 have hs : ∀ (W : World),Below w.heap.size w W → ∀ (x y : Int),Res p x → Calls Try.prog 35 #[.int .u64 p,.int .u64 x,.int .u64 y,.pointer (some ⟨bk,0,none⟩)] W fun e w' => e = .returned (.int .u64 ((c * x) % p)) ∧ Below W.heap.size W w' := by
  intro W hW x y hx
  have c3 := blk_cell (blk_below h3 hW) 0
  simp only [List.getElem?_toArray,List.getElem?_cons_zero] at c3
  obtain ⟨k,hk⟩ := (mul_ev hp hc hx).rounds
  have HK := am hk
  clear hk h1 h2 h3
  go_enter Try.func35,Try.ntmps35
  go_wp2_with (first|(go_at_call 27;(with_reducible refine (field_Mul.calls k _ _ _ ((c * x) % p) _ HK.out).mono ?_);rintro e w' ⟨rfl,⟨nd,rfl⟩⟩))
  first|go_ret|((try simp only [Exit.inBlock,Exit.then]);refine bodyPost_ret (results_tmp rfl _ _ _) rfl ?_)
  exact ⟨rfl,pw_below_drewN (Below.refl _ _) _⟩
 intro W hW x y hx hy
 have c1 := blk_cell (blk_below h1 hW) 0
 have c2 := blk_cell (blk_below h2 hW) 0
 simp only [List.getElem?_toArray,List.getElem?_cons_zero] at c1 c2
 have HS := am (hs W hW x y hx)
 clear hs h1 h2 h3
 go_enter Try.func51,Try.ntmps51
 go_wp2_with (first|(go_at_call 35;(with_reducible refine HS.out.mono ?_);rintro e w' ⟨rfl,hb⟩;have HB := am hb;clear hb))
 first|go_ret|((try simp only [Exit.inBlock,Exit.then]);refine bodyPost_ret (results_tmp rfl _ _ _) rfl ?_)
 exact ⟨rfl,HB.out⟩
def fitsB (p : Int) (l1 l2 : List (List Int)) : Bool := decide (l1.length ≤ l2.length) && (decide (l1.length ≤ 1000000) && (List.range l1.length).all fun (i : Nat) => decide ((rd_L1 l1 (i : Int)).length ≤ (rd_L1 l2 (i : Int)).length) && (decide ((rd_L1 l1 (i : Int)).length ≤ 1000000) && (ressB p (rd_L1 l1 (i : Int)) && ressB p (rd_L1 l2 (i : Int)))))
theorem fitsB_iff {p : Int} {l1 l2 : List (List Int)} : fitsB p l1 l2 = true ↔ l1.length ≤ l2.length ∧ l1.length ≤ 1000000 ∧ ∀ i : Nat,i < l1.length → (rd_L1 l1 (i : Int)).length ≤ (rd_L1 l2 (i : Int)).length ∧ (rd_L1 l1 (i : Int)).length ≤ 1000000 ∧ (∀ x ∈ rd_L1 l1 (i : Int),Res p x) ∧ (∀ x ∈ rd_L1 l2 (i : Int),Res p x) := by
 unfold fitsB
 simp only [Bool.and_eq_true,decide_eq_true_eq,List.all_eq_true,List.mem_range,ressB_iff]
def shamir_Add.f (a0 : Int) (l1 l2 : List (List Int)) : Option (List (List Int)) := if supB a0 = true then (if fitsB a0 l1 l2 = true then some (rowsZ (fun x y => (x + y) % a0) l1 l2) else none) else none
def shamir_Sub.f (a0 : Int) (l1 l2 : List (List Int)) : Option (List (List Int)) := if supB a0 = true then (if fitsB a0 l1 l2 = true then some (rowsZ (fun x y => (x - y) % a0) l1 l2) else none) else none
def shamir_Scale.f (a0 a1 : Int) (l2 : List (List Int)) : Option (List (List Int)) := if supB a0 = true then (if resB a0 a1 = true then (if fitsB a0 l2 l2 = true then some (rowsZ (fun x y => (a1 * x) % a0) l2 l2) else none) else none) else none
set_option maxRecDepth 100000 in
theorem shamir_Add.calls (a0 : Int) (A1 : Option Addr) (c1 : Nat) (l1 : List (List Int)) (A2 : Option Addr) (c2 : Nat) (l2 r : List (List Int)) (w : World) (hr1 : Kd.C (Kd.slice 22 (Kd.int .u64)) w A1 l1.length l1) (hc1 : l1.length ≤ c1) (hr2 : Kd.C (Kd.slice 22 (Kd.int .u64)) w A2 l2.length l2) (hc2 : l2.length ≤ c2) (h : shamir_Add.f a0 l1 l2 = some r) :
  Calls Try.prog 11 #[.int .u64 a0,.slice A1 l1.length c1,.slice A2 l2.length c2] w fun e w' => ∃ v0_ : Value,e = .returned (v0_) ∧ Kd.S (Kd.slice 22 (Kd.int .u64)) 41 w' w.heap.size (fun _ => True) v0_ r ∧ Below w.heap.size w w' := by
 unfold shamir_Add.f at h
 obtain ⟨h1,h⟩ := ifs h
 obtain ⟨h2,h⟩ := ifs h
 obtain ⟨g1,g2,g3⟩ := fitsB_iff.1 h2
 rw [← Option.some.inj h]
 have HW := am (words_walk (p := a0) (fun x y => (x + y) % a0) (.func 26) #[] A1 c1 l1 A2 c2 l2 w hr1 hc1 hr2 hc2 g1 g2 g3 (fun bd bp W _ hd hb => does_add (supB_of h1) bd bp W hd hb))
 clear hr1 hr2 h h1 h2 g1 g2 g3
 go_enter Try.func11,Try.ntmps11
 go_wp2_with (first|(go_at_call 33;(with_reducible refine HW.out.mono ?_);rintro e w1 ⟨v1,rfl,ho1,hb1⟩;have HO1 := am ho1;have HB1 := am hb1;clear ho1 hb1))
 first|go_ret|((try simp only [Exit.inBlock,Exit.then]);refine bodyPost_ret (results_tmp rfl _ _ _) rfl ?_)
 exact ⟨_,rfl,HO1.out,HB1.out⟩
set_option maxRecDepth 100000 in
theorem shamir_Sub.calls (a0 : Int) (A1 : Option Addr) (c1 : Nat) (l1 : List (List Int)) (A2 : Option Addr) (c2 : Nat) (l2 r : List (List Int)) (w : World) (hr1 : Kd.C (Kd.slice 22 (Kd.int .u64)) w A1 l1.length l1) (hc1 : l1.length ≤ c1) (hr2 : Kd.C (Kd.slice 22 (Kd.int .u64)) w A2 l2.length l2) (hc2 : l2.length ≤ c2) (h : shamir_Sub.f a0 l1 l2 = some r) :
  Calls Try.prog 13 #[.int .u64 a0,.slice A1 l1.length c1,.slice A2 l2.length c2] w fun e w' => ∃ v0_ : Value,e = .returned (v0_) ∧ Kd.S (Kd.slice 22 (Kd.int .u64)) 41 w' w.heap.size (fun _ => True) v0_ r ∧ Below w.heap.size w w' := by
 unfold shamir_Sub.f at h
 obtain ⟨h1,h⟩ := ifs h
 obtain ⟨h2,h⟩ := ifs h
 obtain ⟨g1,g2,g3⟩ := fitsB_iff.1 h2
 rw [← Option.some.inj h]
 have HW := am (words_walk (p := a0) (fun x y => (x - y) % a0) (.func 25) #[] A1 c1 l1 A2 c2 l2 w hr1 hc1 hr2 hc2 g1 g2 g3 (fun bd bp W _ hd hb => does_sub (supB_of h1) bd bp W hd hb))
 clear hr1 hr2 h h1 h2 g1 g2 g3
 go_enter Try.func13,Try.ntmps13
 go_wp2_with (first|(go_at_call 33;(with_reducible refine HW.out.mono ?_);rintro e w1 ⟨v1,rfl,ho1,hb1⟩;have HO1 := am ho1;have HB1 := am hb1;clear ho1 hb1))
 first|go_ret|((try simp only [Exit.inBlock,Exit.then]);refine bodyPost_ret (results_tmp rfl _ _ _) rfl ?_)
 exact ⟨_,rfl,HO1.out,HB1.out⟩
set_option maxRecDepth 100000 in
theorem shamir_Scale.calls (a0 a1 : Int) (A2 : Option Addr) (c2 : Nat) (l2 r : List (List Int)) (w : World) (hr2 : Kd.C (Kd.slice 22 (Kd.int .u64)) w A2 l2.length l2) (hc2 : l2.length ≤ c2) (h : shamir_Scale.f a0 a1 l2 = some r) :
  Calls Try.prog 15 #[.int .u64 a0,.int .u64 a1,.slice A2 l2.length c2] w fun e w' => ∃ v0_ : Value,e = .returned (v0_) ∧ Kd.S (Kd.slice 22 (Kd.int .u64)) 41 w' w.heap.size (fun _ => True) v0_ r ∧ Below w.heap.size w w' := by
 unfold shamir_Scale.f at h
 obtain ⟨h1,h⟩ := ifs h
 obtain ⟨h0,h⟩ := ifs h
 obtain ⟨h2,h⟩ := ifs h
 obtain ⟨g1,g2,g3⟩ := fitsB_iff.1 h2
 rw [← Option.some.inj h]
 have hbA := below_alloc (Below.refl w.heap.size w) (.cells #[.int .u64 a1] 22)
 have HW := am (words_walk (p := a0) (fun x y => (a1 * x) % a0) (.func 35) #[.pointer (some ⟨w.heap.size,0,none⟩)] A2 c2 l2 A2 c2 l2 _ (Kd.C_below hr2 hbA) hc2 (Kd.C_below hr2 hbA) hc2 g1 g2 g3 (fun bd bp W hW hd hb => does_mul (supB_of h1) (resB_iff.1 h0) bd bp w.heap.size W hd hb (blk_below (blk_new w _) hW)))
 have HBA := am hbA
 clear hr2 h h0 h1 h2 g1 g2 g3 hbA
 go_enter Try.func15,Try.ntmps15
 go_wp2_with (first|(go_at_call 33;(with_reducible refine HW.out.mono ?_);rintro e w1 ⟨v1,rfl,ho1,hb1⟩;have HO1 := am (Kd.S_lower ho1 (below_size HBA.out));have HB1 := am (below_step HBA.out hb1);clear ho1 hb1))
 first|go_ret|((try simp only [Exit.inBlock,Exit.then]);refine bodyPost_ret (results_tmp rfl _ _ _) rfl ?_)
 exact ⟨_,rfl,HO1.out,HB1.out⟩
end Go.Proofs.Ytjnkkfdlcbcelaa.Hw
end
section
namespace Go.Proofs.Ytjnkkfdlcbcelaa.E
open Go.RowKit Go.Proofs.Ytjnkkfdlcbcelaa.Pr Go.Proofs.Ytjnkkfdlcbcelaa.Hw Go.Proofs.Ytjnkkfdlcbcelaa.Pl Go.Proofs.YtjnkkfdlcbcelaaW.PrintWords Go.Proofs.YtjnkkfdlcbcelaaW.PrintLast Go.Proofs.YtjnkkfdlcbcelaaW.PrintMore
theorem getD_out (l : List Int) (j : Nat) (h : l.length ≤ j) : l.getD j 0 = 0 := by rw [List.getD_eq_getElem?_getD,List.getElem?_eq_none h];rfl
end Go.Proofs.Ytjnkkfdlcbcelaa.E
end
section
namespace Go.Proofs.Ytjnkkfdlcbcelaa.Pr
open Go.RowKit Go.Proofs.YtjnkkfdlcbcelaaW.PrintWords Go.Proofs.YtjnkkfdlcbcelaaW.PrintLast Go.Proofs.YtjnkkfdlcbcelaaW.PrintMore
attribute [local go_sem] max2_int min2_int max_two min_two max_three min_three max_four min_four
open Go.Proofs.Ytjnkkfdlcbcelaa.Hw
def privityref05_Below.l0 : Nat → Int → List Int → Int → Option (Bool)
 | 0,_,_,_ => none
 | k + 1,x0,x1,x5 => if x5 < (x1.length : Int) then (if 0 ≤ x5 then (if (rd x1 x5) ≥ x0 then (some false) else (privityref05_Below.l0 k x0 x1 (wrap64 (x5 + 1)))) else (none)) else (some true)
def privityref05_Below.f (k : Nat) (a0 : Int) (l1 : List Int) : Option (Bool) := privityref05_Below.l0 k a0 l1 0
set_option maxHeartbeats 8000000 in
set_option maxRecDepth 100000 in
theorem privityref05_Below.calls (k : Nat) (a0 : Int) (A1 : Option Addr) (c1 : Nat) (l1 : List Int) (r : Bool) (w : World) (hr1 : Kd.C (Kd.int .u64) w A1 l1.length l1) (hc1 : l1.length ≤ c1) (h : privityref05_Below.f k a0 l1 = some r) :
  Calls Try.prog 22 #[.int .u64 a0,.slice A1 l1.length c1] w fun e w' => e = .returned (.bool r) ∧ Drawn0 w w' := by
 have HR1 := am hr1
 have HC1 := am hc1
 clear hr1 hc1
 have H : (privityref05_Below.l0 k a0 l1 0) = some r := h
 clear h
 have H' := am H
 clear H
 go_enter Try.func22,Try.ntmps22
 go_wp2
 go_loopg [5] k (fun kq v5 w' => ∃ (x5_1 : Int),v5 = .int .i64 x5_1 ∧ Aside0 (privityref05_Below.l0 kq a0 l1 x5_1 = some r) ∧ Aside0 (kq ≤ k) ∧ Drawn0 w w')
 case atStart => exact ⟨(0),(by first|rfl|(simp;done)|(simp [*];done)),H',⟨Nat.le_refl _⟩,by repeat (first|exact Drawn0.refl _|apply Drawn0.step)⟩
 case round =>
  clear H'
  try clear c1
  try clear c2
  try clear p2
  obtain ⟨x5_1,rfl,HA,HK1,⟨m1,rfl⟩⟩ := hrel
  cases gk with
  | zero => exact absurd HA.out (by simp [privityref05_Below.l0])
  | succ k1 =>
   have H := HA.out
   clear HA
   simp only [privityref05_Below.l0] at H
   by_cases c3 : x5_1 < (l1.length : Int)
   ·rw [if_pos c3] at H
    have c3b0 : decide (x5_1 < (l1.length : Int)) = true := decide_eq_true c3
    clear c3
    by_cases c4 : 0 ≤ x5_1
    ·rw [if_pos c4] at H
     have c4b0 : decide (0 ≤ x5_1) = true := decide_eq_true c4
     clear c4
     by_cases c5 : (rd l1 x5_1) ≥ a0
     ·rw [if_pos c5] at H
      have c5b0 : decide (a0 ≤ (rd l1 x5_1)) = true := decide_eq_true c5
      clear c5
      obtain rfl := Option.some.inj H
      have p374 : 0 ≤ (x5_1 : Int) := od
      have q374 : x5_1 < (l1.length : Int) := od
      obtain ⟨ad374,e374,hx374_0⟩ := Kd.at_int HR1.out x5_1 p374 q374
      cases e374
      replace p374 := eq_true p374
      replace q374 := eq_true q374
      go_wp2
      go_ret
      exact ⟨by first|rfl|(simp;done)|(simp [*];done),by repeat (first|exact Drawn0.refl _|apply Drawn0.step)⟩
     ·rw [if_neg c5] at H
      have c5b0 : decide (a0 ≤ (rd l1 x5_1)) = false := decide_eq_false c5
      clear c5
      have H' := am H
      clear H
      have p374 : 0 ≤ (x5_1 : Int) := od
      have q374 : x5_1 < (l1.length : Int) := od
      obtain ⟨ad374,e374,hx374_0⟩ := Kd.at_int HR1.out x5_1 p374 q374
      cases e374
      replace p374 := eq_true p374
      replace q374 := eq_true q374
      go_wp2
      go_roundg k1
      case measure => have := HK1.out;omega
      case rel => exact ⟨(wrap64 (x5_1 + 1)),(by first|rfl|(simp;done)|(simp [*];done)),H',⟨by have := HK1.out;omega⟩,by repeat (first|exact Drawn0.refl _|apply Drawn0.step)⟩
    ·rw [if_neg c4] at H
     exact absurd H (by simp)
   ·rw [if_neg c3] at H
    have c3b0 : decide (x5_1 < (l1.length : Int)) = false := decide_eq_false c3
    clear c3
    obtain rfl := Option.some.inj H
    go_wp2
    go_ret
    exact ⟨by first|rfl|(simp;done)|(simp [*];done),by repeat (first|exact Drawn0.refl _|apply Drawn0.step)⟩
end Go.Proofs.Ytjnkkfdlcbcelaa.Pr
end
section
namespace Go.Proofs.Ytjnkkfdlcbcelaa.E
open Go.RowKit Go.Proofs.Ytjnkkfdlcbcelaa.Pr Go.Proofs.Ytjnkkfdlcbcelaa.Hw Go.Proofs.Ytjnkkfdlcbcelaa.Pl Go.Proofs.YtjnkkfdlcbcelaaW.PrintWords Go.Proofs.YtjnkkfdlcbcelaaW.PrintLast Go.Proofs.YtjnkkfdlcbcelaaW.PrintMore
theorem allLoop {F : Nat → Int → Option Bool} {n : Nat} {Q : Nat → Prop} [DecidablePred Q] (hend : ∀ k,F (k + 1) (n : Int) = some true) (hyes : ∀ i,i < n → Q i → ∀ r,Ev (fun k => F k ((i + 1 : Nat) : Int)) r → Ev (fun k => F k (i : Int)) r)
  (hno : ∀ i,i < n → ¬ Q i → Ev (fun k => F k (i : Int)) false) (r : Bool) (hr : r = true ↔ ∀ i,i < n → Q i) : Ev (fun k => F k ((0 : Nat) : Int)) r := by
 have main : ∀ d i,i + d = n → ∀ r : Bool,(r = true ↔ ∀ j,i ≤ j → j < n → Q j) → Ev (fun k => F k (i : Int)) r := by
  intro d
  induction d with
  | zero =>
   intro i hi r hr
   have : i = n := by omega
   subst this
   have : r = true := hr.2 (fun j h1 h2 => by omega)
   subst this
   exact Ev.step (fun k => hend k) (Ev.now _)
  | succ d ih =>
   intro i hi r hr
   by_cases h : Q i
   ·refine hyes i (by omega) h r (ih (i + 1) (by omega) r ⟨fun e j h1 h2 => hr.1 e j (by omega) h2,fun e => hr.2 fun j h1 h2 => ?_⟩)
    by_cases e2 : j = i
    ·rw [e2];exact h
    ·exact e j (by omega) h2
   ·have : r = false := by
     cases r with
     | false => rfl
     | true => exact absurd (hr.1 rfl i (Nat.le_refl _) (by omega)) h
    subst this
    exact hno i (by omega) h
 exact main n 0 (by omega) r ⟨fun e j _ h2 => hr.1 e j h2,fun e => hr.2 fun j h => e j (Nat.zero_le _) h⟩
theorem rdL_nat (l : List (List Int)) (i : Nat) : rd_L1 l (i : Int) = l.getD i [] := by unfold rd_L1;rw [Int.toNat_natCast]
def belowB (p : Int) (l : List Int) : Bool := l.all fun x => decide (x < p)
theorem below_ev (p : Int) (l : List Int) (hl : l.length ≤ 1000000000) : Ev (fun k => privityref05_Below.f k p l) (belowB p l) := by
 have h := allLoop (F := fun k i => privityref05_Below.l0 k p l i) (n := l.length) (Q := fun i => l.getD i 0 < p) (fun k => ?_) (fun i hi hq r h => ?_) (fun i hi hq => ?_) (belowB p l) ?_
 ·exact h
 ·simp only [privityref05_Below.l0]
  rw [if_neg (by omega)]
 ·refine Ev.step (fun k => ?_) h
  simp only [privityref05_Below.l0]
  rw [if_pos (by omega),if_pos (by omega),rd_nat,if_neg (by omega),wnat (by omega)]
 ·refine Ev.step (fun k => ?_) (Ev.now _)
  simp only [privityref05_Below.l0]
  rw [if_pos (by omega),if_pos (by omega),rd_nat,if_pos (by omega)]
 ·unfold belowB
  rw [List.all_eq_true]
  refine ⟨fun h i hi => ?_,fun h x hx => ?_⟩
  ·rw [Hw.getD_in _ _ hi];exact of_decide_eq_true (h _ (List.getElem_mem hi))
  ·obtain ⟨i,hi,rfl⟩ := List.getElem_of_mem hx
   have := h i hi
   rw [Hw.getD_in _ _ hi] at this
   exact decide_eq_true this
theorem below_res {p : Int} {l : List Int} (h : belowB p l = true) (hw : ∀ x ∈ l,0 ≤ x) : ∀ x ∈ l,Res p x := fun x hx => ⟨hw x hx,of_decide_eq_true (List.all_eq_true.1 h x hx)⟩
end Go.Proofs.Ytjnkkfdlcbcelaa.E
end
section
namespace Go.Proofs.Ytjnkkfdlcbcelaa.Pr
open Go.RowKit Go.Proofs.YtjnkkfdlcbcelaaW.PrintWords Go.Proofs.YtjnkkfdlcbcelaaW.PrintLast Go.Proofs.YtjnkkfdlcbcelaaW.PrintMore
attribute [local go_sem] max2_int min2_int max_two min_two max_three min_three max_four min_four
open Go.Proofs.Ytjnkkfdlcbcelaa.Hw
mutual
def shamir_LocalShares.l0 : Nat → List (List Int) → List (List (List Int)) → Int → Int → Option ((List (List Int)))
 | 0,_,_,_,_ => none
 | k + 1,x3,x16,x17,x18 => if x18 < x17 then (if 0 ≤ x18 then (if x18 < (x16.length : Int) then (shamir_LocalShares.l1 k x3 x16 x17 x18 (rd_L5 x16 x18) ((rd_L5 x16 x18).length : Int) 0) else (none)) else (none)) else (some x3)
def shamir_LocalShares.l1 : Nat → List (List Int) → List (List (List Int)) → Int → Int → List (List Int) → Int → Int → Option ((List (List Int)))
 | 0,_,_,_,_,_,_,_ => none
 | k + 1,x3,x16,x17,x18,x22,x23,x24 => if x24 < x23 then (if 0 ≤ x24 then (if x24 < (x22.length : Int) then (if x24 < (x3.length : Int) then (if 0 < ((rd_L1 x22 x24).length : Int) then (if (rd_L1 x3 x24).length < 17592186044416 then (shamir_LocalShares.l1 k (x3.set (x24 : Int).toNat ((rd_L1 x3 x24) ++ [rd (rd_L1 x22 x24) 0])) x16 x17 x18 x22 x23 (wrap64 (x24 + 1))) else (none)) else (none)) else (none)) else (none)) else (none)) else (shamir_LocalShares.l0 k x3 x16 x17 (wrap64 (x18 + 1)))
end
def shamir_LocalShares.f (k : Nat) (l0 : List (List (List Int))) : Option ((List (List Int))) := if (l0.length : Int) = 0 then (some ([] : List (List Int))) else (if 0 < (l0.length : Int) then (if 0 ≤ ((rd_L5 l0 0).length : Int) then (if (((rd_L5 l0 0).length : Int) : Int).toNat ≤ 11728124029610 then (shamir_LocalShares.l0 k (List.replicate (((rd_L5 l0 0).length : Int) : Int).toNat []) l0 (l0.length : Int) 0) else (none)) else (none)) else (none))
def shamir_LocalShares.T10 : Bool × List (List Nat × List Nat) := (true,[([],[]),([],[]),([],[]),([],[]),([2,3],[2,3]),([4],[4]),([],[]),([6],[6]),([7],[7]),([8],[8]),([5,9],[5,9]),([0,1,0,1,2,3,4,5,6,7,8,9,10],[0,1]),([11,10,10,0,1,2,3,4,5,6,7,8,9,10],[10,11])])
def shamir_LocalShares.B10 : List Nat := [0,0,0,0,12,28,0,64,192,448,1020,2047,4095]
theorem shamir_LocalShares.tab10 : rtab .any (opsOf Try.f20 10) = shamir_LocalShares.T10 := by kernel_rfl
theorem shamir_LocalShares.bits10 : waitsOk shamir_LocalShares.T10.2 shamir_LocalShares.B10 = true := by kernel_rfl
set_option maxHeartbeats 8000000 in
set_option maxRecDepth 100000 in
theorem shamir_LocalShares.calls (k : Nat) (A0 : Option Addr) (c0 : Nat) (l0 : List (List (List Int))) (r : List (List Int)) (w : World) (hr0 : Kd.C (Kd.slice 41 (Kd.slice 22 (Kd.int .u64))) w A0 l0.length l0) (hc0 : l0.length ≤ c0) (h : shamir_LocalShares.f k l0 = some r) :
  Calls Try.prog 20 #[.slice A0 l0.length c0] w fun e w' => ∃ v0_ : Value,e = .returned (v0_) ∧ Kd.S (Kd.slice 22 (Kd.int .u64)) 41 w' w.heap.size (fun _ => True) v0_ r ∧ Below w.heap.size w w' := by
 have HR0 := am hr0
 have HC0 := am hc0
 clear hr0 hc0
 have HB := am (Below.refl w.heap.size w)
 have H : (if (l0.length : Int) = 0 then (some ([] : List (List Int))) else (if 0 < (l0.length : Int) then (if 0 ≤ ((rd_L5 l0 0).length : Int) then (if (((rd_L5 l0 0).length : Int) : Int).toNat ≤ 11728124029610 then (shamir_LocalShares.l0 k (List.replicate (((rd_L5 l0 0).length : Int) : Int).toNat []) l0 (l0.length : Int) 0) else (none)) else (none)) else (none))) = some r := h
 clear h
 by_cases c2 : (l0.length : Int) = 0
 ·rw [if_pos c2] at H
  have c2b0 : ((l0.length : Int) == 0) = true := beq_iff_eq.mpr c2
  have c2b1 : ((l0.length : Int) != 0) = false := bne_eq_false_iff_eq.mpr c2
  clear c2
  obtain rfl := Option.some.inj H
  go_enter Try.func20,Try.ntmps20
  go_wp2
  go_ret
  exact ⟨_,by first|rfl|(simp [errW_none,errW_some] <;> rfl)|(simp [*,errW_none,errW_some] <;> rfl),by first|exact Kd.S_nil _ _ _ _ _|exact Kd.N_nil _ _ _ _ _|exact Kd.V_nil _ _ _ _ _|exact Kd.Q_nil _ _ _ _ _|exact Kd.R_nil _ _ _ _ _,bb HB⟩
 ·rw [if_neg c2] at H
  have c2b0 : ((l0.length : Int) == 0) = false := beq_eq_false_iff_ne.mpr c2
  have c2b1 : ((l0.length : Int) != 0) = true := bne_iff_ne.mpr c2
  have c2b2 : ¬ (l0 = []) := fun h_ => c2 (by rw [h_];rfl)
  by_cases c3 : 0 < (l0.length : Int)
  ·rw [if_pos c3] at H
   have c3b0 : decide (0 < (l0.length : Int)) = true := decide_eq_true c3
   have c3b1 : decide (0 < l0.length) = true := decide_eq_true (by omega)
   clear c3
   by_cases c4 : 0 ≤ ((rd_L5 l0 0).length : Int)
   ·rw [if_pos c4] at H
    have c4b0 := eq_true c4
    have c4b1 : decide (0 ≤ ((rd_L5 l0 0).length : Int)) = true := decide_eq_true c4
    clear c4
    by_cases c5 : (((rd_L5 l0 0).length : Int) : Int).toNat ≤ 11728124029610
    ·rw [if_pos c5] at H
     have c5b0 := eq_true c5
     have c5b1 : decide ((((rd_L5 l0 0).length : Int) : Int).toNat ≤ 11728124029610) = true := decide_eq_true c5
     clear c5
     obtain ⟨y363,hy363⟩ : ∃ y_ : List (List Int),y_ = (List.replicate (((rd_L5 l0 0).length : Int) : Int).toNat []) := ⟨_,rfl⟩
     replace H : (shamir_LocalShares.l0 k y363 l0 (l0.length : Int) 0) = some r := by first|(rw [hy363];with_reducible exact H)|(have H2_ := (Option.bind_some _ _).symm.trans H;rw [hy363];with_reducible exact H2_)|(have H2_ := (Option.bind_some _ _).symm.trans H;with_reducible exact H2_)|with_reducible exact H|(rw [hy363];exact H)|exact H
     have Ny363 := am hy363
     clear hy363
     have H' := am H
     clear H
     have p362 : 0 ≤ (0 : Int) := (by omega)
     have q362 : 0 < (l0.length : Int) := od
     obtain ⟨ad362,A362_0,c362_0,e362,hx362_0,hl362_0,hi362_0⟩ := at_L5 HR0.out 0 p362 q362
     cases e362
     have qi362 : (0 < l0.length) = True := eq_true (by omega)
     (try rw [show ((0 : Int)).toNat = 0 from rfl] at hx362_0)
     (try rw [Addr.add_zero'] at hx362_0)
     have HR362_0 := am hi362_0
     have HC362_0 := am hl362_0
     clear hi362_0 hl362_0
     replace p362 := eq_true p362
     replace q362 := eq_true q362
     go_enter Try.func20,Try.ntmps20
     go_wp2_with (first|((with_reducible refine gate_dst (N := 15) rfl ?_);refine Kd.S_make (Kd.slice 22 (Kd.int .u64)) _ 41 rfl (N := 15) rfl 25 _ _ rfl ((rd_L5 l0 0).length : Int) rfl rfl Try.underlying25 (.slice none 0 0) 24 info41 rfl (by decide) (by omega) [] (ok := fun _ => True) (okp := fun _ => True) ⟨_,rfl,Kd.R_nil _ _ _ _ _⟩ (fun _ hk => hk) trivial (od) (Nat.le_trans (Nat.mul_le_mul_right _ (od : ((rd_L5 l0 0).length : Int).toNat ≤ 11728124029610)) (by omega)) (Below.refl _ _) (Nat.le_refl _) ?_;intro v364 w6 ho7 hb hg_ hnew_;clear hg_ hnew_;(first|rw [← Ny363.out] at ho7|(simp only [Int.reduceToNat] at ho7;rw [← Ny363.out] at ho7));have n0_ := am (Kd.S_lower ho7 (below_size (bb HB)));have n1_ := am (below_step (bb HB) hb);clear HB;have HO365 := n0_;have HB := n1_;clear n0_ n1_;clear hb ho7))
     go_loopg [18] k (fun kq v18 w' => ∃ (x3_1 : List (List Int)) (x18_1 : Int),v18 = .int .i64 x18_1 ∧ Aside0 (shamir_LocalShares.l0 kq x3_1 l0 (l0.length : Int) x18_1 = some r) ∧ Aside0 (kq ≤ k) ∧ Aside0 (Kd.S (Kd.slice 22 (Kd.int .u64)) 41 w' w.heap.size (fun _ => True) v364 x3_1) ∧ Aside0 (Below w.heap.size w w'))
     case atStart => exact ⟨(y363),(0),(by first|rfl|(simp;done)|(simp [*];done)),H',⟨Nat.le_refl _⟩,⟨by (with_reducible repeat (first|apply Kd.S_alloc|apply Kd.S_drewN|apply Kd.S_drew));exact HO365.out⟩,⟨bb HB⟩⟩
     case round =>
      clear H'
      try clear c2
      try clear c2b0
      try clear c2b1
      try clear c2b2
      try clear p2
      try clear c3
      try clear c3b0
      try clear c3b1
      try clear p3
      try clear q3
      try clear hx3
      try clear qi3
      try clear c4
      try clear c4b0
      try clear c4b1
      try clear c5
      try clear c5b0
      try clear c5b1
      try clear hx362_0
      try clear p362
      try clear q362
      obtain ⟨x3_1,x18_1,rfl,HA,HK1,HO_3,HB⟩ := hrel
      cases gk with
      | zero => exact absurd HA.out (by simp [shamir_LocalShares.l0])
      | succ k1 =>
       have H := HA.out
       clear HA
       simp only [shamir_LocalShares.l0] at H
       by_cases c8 : x18_1 < (l0.length : Int)
       ·rw [if_pos c8] at H
        have c8b0 : decide (x18_1 < (l0.length : Int)) = true := decide_eq_true c8
        clear c8
        by_cases c9 : 0 ≤ x18_1
        ·rw [if_pos c9] at H
         have c9b0 : decide (0 ≤ x18_1) = true := decide_eq_true c9
         clear c9
         by_cases c10 : x18_1 < (l0.length : Int)
         ·rw [if_pos c10] at H
          have c10b0 : decide (x18_1 < (l0.length : Int)) = true := decide_eq_true c10
          clear c10
          have H' := am H
          clear H
          have p366 : 0 ≤ (x18_1 : Int) := od
          have q366 : x18_1 < (l0.length : Int) := od
          obtain ⟨ad366,A366_0,c366_0,e366,hx366_0,hl366_0,hi366_0⟩ := at_L5 HR0.out x18_1 p366 q366
          obtain rfl : ad362 = ad366 := (by injection e366)
          replace hx366_0 := (HB.out.cell (World.block_lt_of_cell? w _ hx366_0)).trans hx366_0
          have HR366_0 := am hi366_0
          have HC366_0 := am hl366_0
          clear hi366_0 hl366_0
          replace p366 := eq_true p366
          replace q366 := eq_true q366
          go_wp2
          go_loopg [24] k1 (fun kq v24 w' => ∃ (x3_2 : List (List Int)) (x24_2 : Int),v24 = .int .i64 x24_2 ∧ Aside0 (shamir_LocalShares.l1 kq x3_2 l0 (l0.length : Int) x18_1 (rd_L5 l0 x18_1) ((rd_L5 l0 x18_1).length : Int) x24_2 = some r) ∧ Aside0 (kq ≤ k1) ∧ Aside0 (Kd.S (Kd.slice 22 (Kd.int .u64)) 41 w' w.heap.size (fun _ => True) v364 x3_2) ∧ Aside0 (Below w.heap.size w w'))
          case atStart => exact ⟨(x3_1),(0),(by first|rfl|(simp;done)|(simp [*];done)),H',⟨Nat.le_refl _⟩,⟨by (with_reducible repeat (first|apply Kd.S_alloc|apply Kd.S_drewN|apply Kd.S_drew));exact HO_3.out⟩,⟨bb HB⟩⟩
          case round =>
           clear H'
           try clear c1
           try clear c2
           try clear c2b0
           try clear c2b1
           try clear c2b2
           try clear p2
           try clear c3
           try clear c3b0
           try clear c3b1
           try clear p3
           try clear q3
           try clear hx3
           try clear qi3
           try clear c4
           try clear c4b0
           try clear c4b1
           try clear c5
           try clear c5b0
           try clear c5b1
           try clear c8
           try clear c8b0
           try clear c9
           try clear c9b0
           try clear c10
           try clear c10b0
           try clear hx362_0
           try clear hx366_0
           try clear p2
           try clear p3
           try clear p362
           try clear p366
           try clear q3
           try clear q362
           try clear q366
           obtain ⟨x3_2,x24_2,rfl,HA,HK2,HO_3,HB⟩ := hrel
           cases gk with
           | zero => exact absurd HA.out (by simp [shamir_LocalShares.l1])
           | succ k2 =>
            have H := HA.out
            clear HA
            simp only [shamir_LocalShares.l1] at H
            by_cases c11 : x24_2 < ((rd_L5 l0 x18_1).length : Int)
            ·rw [if_pos c11] at H
             have c11b0 : decide (x24_2 < ((rd_L5 l0 x18_1).length : Int)) = true := decide_eq_true c11
             clear c11
             by_cases c12 : 0 ≤ x24_2
             ·rw [if_pos c12] at H
              have c12b0 : decide (0 ≤ x24_2) = true := decide_eq_true c12
              clear c12
              by_cases c13 : x24_2 < ((rd_L5 l0 x18_1).length : Int)
              ·rw [if_pos c13] at H
               have c13b0 : decide (x24_2 < ((rd_L5 l0 x18_1).length : Int)) = true := decide_eq_true c13
               clear c13
               by_cases c14 : x24_2 < (x3_2.length : Int)
               ·rw [if_pos c14] at H
                have c14b0 : decide (x24_2 < (x3_2.length : Int)) = true := decide_eq_true c14
                clear c14
                by_cases c15 : 0 < ((rd_L1 (rd_L5 l0 x18_1) x24_2).length : Int)
                ·rw [if_pos c15] at H
                 have c15b0 : decide (0 < ((rd_L1 (rd_L5 l0 x18_1) x24_2).length : Int)) = true := decide_eq_true c15
                 have c15b1 : decide (0 < (rd_L1 (rd_L5 l0 x18_1) x24_2).length) = true := decide_eq_true (by omega)
                 clear c15
                 by_cases c16 : (rd_L1 x3_2 x24_2).length < 17592186044416
                 ·rw [if_pos c16] at H
                  have LMc16 := am c16
                  clear c16
                  obtain ⟨y370,hy370⟩ : ∃ y_ : List Int,y_ = ((rd_L1 x3_2 x24_2) ++ [rd (rd_L1 (rd_L5 l0 x18_1) x24_2) 0]) := ⟨_,rfl⟩
                  replace H : (shamir_LocalShares.l1 k2 (x3_2.set (x24_2 : Int).toNat y370) l0 (l0.length : Int) x18_1 (rd_L5 l0 x18_1) ((rd_L5 l0 x18_1).length : Int) (wrap64 (x24_2 + 1))) = some r := by first|(rw [hy370];with_reducible exact H)|(have H2_ := (Option.bind_some _ _).symm.trans H;rw [hy370];with_reducible exact H2_)|(have H2_ := (Option.bind_some _ _).symm.trans H;with_reducible exact H2_)|with_reducible exact H|(rw [hy370];exact H)|exact H
                  have Ny370 := am hy370
                  clear hy370
                  obtain ⟨y373,hy373⟩ : ∃ y_ : List (List Int),y_ = (x3_2.set (x24_2 : Int).toNat y370) := ⟨_,rfl⟩
                  replace H : (shamir_LocalShares.l1 k2 y373 l0 (l0.length : Int) x18_1 (rd_L5 l0 x18_1) ((rd_L5 l0 x18_1).length : Int) (wrap64 (x24_2 + 1))) = some r := by first|(rw [hy373];with_reducible exact H)|(have H2_ := (Option.bind_some _ _).symm.trans H;rw [hy373];with_reducible exact H2_)|(have H2_ := (Option.bind_some _ _).symm.trans H;with_reducible exact H2_)|with_reducible exact H|(rw [hy373];exact H)|exact H
                  have Ny373 := am hy373
                  clear hy373
                  have H' := am H
                  clear H
                  have p367 : 0 ≤ (x24_2 : Int) := od
                  have q367 : x24_2 < ((rd_L5 l0 x18_1).length : Int) := od
                  obtain ⟨ad367,A367_0,c367_0,e367,hx367_0,hl367_0,hi367_0⟩ := at_L1 HR366_0.out x24_2 p367 q367
                  cases e367
                  replace hx367_0 := (HB.out.cell (World.block_lt_of_cell? w _ hx367_0)).trans hx367_0
                  have HR367_0 := am hi367_0
                  have HC367_0 := am hl367_0
                  clear hi367_0 hl367_0
                  replace p367 := eq_true p367
                  replace q367 := eq_true q367
                  try go_wp2
                  have n0_ := am (Kd.S_drew HO_3.out)
                  have n1_ := am (below_drew1 HB.out)
                  clear HO_3
                  clear HB
                  have HO_3 := n0_
                  have HB := n1_
                  clear n0_ n1_
                  obtain ⟨Ao19,co19,eo19⟩ := Kd.S_slice HO_3.out
                  (first|subst eo19|(injection eo19 with f1_ f2_ f3_;have f4_ := f1_.symm;have f5_ := f3_.symm;clear f1_ f2_ f3_;subst f4_;subst f5_))
                  have p368 : 0 ≤ (x24_2 : Int) := od
                  have q368 : x24_2 < (x3_2.length : Int) := od
                  obtain ⟨ad368,A368_0,c368_0,e368,hx368_0,hl368_0,hi368_0⟩ := at_L1 (Kd.S_reads' HO_3.out).2.2 x24_2 p368 q368
                  cases e368
                  obtain ⟨ce368,hce368,hMe368,hcc368⟩ := Kd.S_get HO_3.out [] x24_2 p368 (by first|exact q368|exact od|(have e_ := (Kd.S_reads' HO_3.out).1;omega))
                  obtain ⟨ve368_0,rfl,ge368_0⟩ := hMe368
                  have hv368_0 := hcc368 0 _ rfl
                  rw [Nat.add_zero,show ((Kd.slice 22 (Kd.int .u64))).sz = 1 from rfl,Nat.mul_one] at hv368_0
                  replace hv368_0 := Option.some.inj (hv368_0.symm.trans hx368_0)
                  rw [hv368_0] at ge368_0
                  have HL368_0 := am (show Kd.R (Kd.int .u64) 22 _ _ _ _ (rd_L1 x3_2 x24_2) from ge368_0)
                  clear hv368_0 ge368_0
                  have HX368_0 := am hx368_0
                  clear hcc368 hce368
                  have HR368_0 := am hi368_0
                  have HC368_0 := am hl368_0
                  clear hi368_0 hl368_0
                  replace p368 := eq_true p368
                  replace q368 := eq_true q368
                  have p369 : 0 ≤ (0 : Int) := (by omega)
                  have q369 : 0 < ((rd_L1 (rd_L5 l0 x18_1) x24_2).length : Int) := od
                  obtain ⟨ad369,e369,hx369_0⟩ := Kd.at_int HR367_0.out 0 p369 q369
                  have hw369_0 := hx369_0
                  (try rw [show ((0 : Int)).toNat = 0 from rfl] at hw369_0)
                  (try rw [show 0 * 1 = 0 from rfl] at hw369_0)
                  (try rw [Addr.add_zero'] at hw369_0)
                  cases e369
                  have qi369 : (0 < (rd_L1 (rd_L5 l0 x18_1) x24_2).length) = True := eq_true (by omega)
                  (try rw [show ((0 : Int)).toNat = 0 from rfl] at hx369_0)
                  (try rw [Addr.add_zero'] at hx369_0)
                  replace hx369_0 := (HB.out.cell (World.block_lt_of_cell? w _ hx369_0)).trans hx369_0
                  replace p369 := eq_true p369
                  replace q369 := eq_true q369
                  obtain ⟨go20,co20,eo20,gb20,gl20,cl20,HG20⟩ := Kd.S_form HO_3.out (by have h_ : (x24_2 : Int) < ((x3_2.length : Int) : Int) := od;have h2_ : 0 ≤ (x24_2 : Int) := (od);omega)
                  (first|cases eo20|(injection eo20 with ea_ en_ ec_;(first|subst ea_|(injection ea_ with ea_;subst ea_));subst ec_;clear en_))
                  have GB20 := am gb20
                  have GG20 := am HG20
                  clear gb20 gl20 HG20
                  (first|simp only [add_plain] at hx368_0|skip)
                  obtain ⟨oki20,ce20,hcl20,hM20,hcc20,_,_,hH20⟩ := Kd.S_elem HO_3.out [] (x24_2 : Int) (od) (by have h_ : (x24_2 : Int) < ((x3_2.length : Int) : Int) := od;first|exact h_|(have e_ := (Kd.S_reads' HO_3.out).1;omega)|simpa using h_)
                  obtain ⟨ve20_0,rfl,ge20_0⟩ := hM20
                  have hv20 := hcc20 0 _ rfl
                  have hX20 := HX368_0.out
                  (try simp only [add_plain] at hX20)
                  (try simp only [Nat.add_zero] at hv20)
                  (try rw [show ((Kd.slice 22 (Kd.int .u64))).sz = 1 from rfl,Nat.mul_one] at hv20)
                  replace hv20 := Option.some.inj (hv20.symm.trans hX20)
                  subst hv20
                  clear hX20 hcc20 hcl20
                  have UU20 := am (show Kd.R (Kd.int .u64) 22 _ w.heap.size oki20 (.slice A368_0 (rd_L1 x3_2 x24_2).length c368_0) (rd_L1 x3_2 x24_2) from ge20_0)
                  have HH20 := am hH20
                  have HN20 := am (Kd.S_reads' HO_3.out).1
                  clear hH20 ge20_0
                  refine start_ (n := 13) (S := fun w' => w'.cell? ⟨go20,(x24_2).toNat,none⟩ = some (.slice A368_0 (rd_L1 x3_2 x24_2).length c368_0) ∧ w'.cell? ad369 = some (.int .u64 (rd (rd_L1 (rd_L5 l0 x18_1) x24_2) 0))) (ds := [12]) (bz 13 0) (by kernel_rfl) rfl rfl ⟨hx368_0,((HB.out.cell (World.block_lt_of_cell? w _ hw369_0)).trans hw369_0)⟩ (fun hHeld => ?_);refine with_tabW shamir_LocalShares.tab10 shamir_LocalShares.bits10 (fun HT_ HW_ => ?_)
                  generalize wr.drew = w18 at HO_3 HB GG20 HH20 HL368_0 HR368_0 HX368_0 UU20 hx368_0 hx369_0 hHeld ⊢
                  refine pk 0 29 (bz 13 1) HT_ ?_
                  refine pk 1 30 (bz 13 3) HT_ ?_
                  refine pk 2 31 (bz 13 7) HT_ ?_
                  refine pk 3 32 (bz 13 15) HT_ ?_
                  refine pk 4 33 (bz 13 31) HT_ ?_
                  refine pk 6 35 (bz 13 95) HT_ ?_
                  refine pk 7 36 (bz 13 223) HT_ ?_
                  refine tk 5 34 (bz 13 255) HT_ HW_ hHeld ?_
                  refine tk 8 37 (bz 13 511) HT_ HW_ hHeld ?_
                  refine on 9 38 (bz 13 1023) HT_ (fun K hK => ?_)
                  refine value_ (w1 := ?_) (v := ?_) (by rfl) rfl ?_ ?_
                  rotate_left 2
                  ·go_simp
                   constructor
                   ·rfl
                   ·rfl
                  refine hK.out _ _ ⟨(World.cell?_alloc_lt _ _ _ (World.block_lt_of_cell? _ _ (hHeld.1))).trans (hHeld.1),(World.cell?_alloc_lt _ _ _ (World.block_lt_of_cell? _ _ (((HB.out.cell (World.block_lt_of_cell? w _ hw369_0)).trans hw369_0)))).trans (((HB.out.cell (World.block_lt_of_cell? w _ hw369_0)).trans hw369_0))⟩ (fun hHeld => ?_)
                  clear hK K
                  refine nm 38 ?_
                  refine on 10 39 (bz 13 2047) HT_ (fun K hK => ?_)
                  refine Kd.R_append_step (Kd.int .u64) (w0 := w) w.heap.size (by rfl) (.tmp 34) (.tmp 38) 41 22 (.int .u64 0) 8 rfl Try.underlying41 info22 rfl (by decide) (by omega) (.slice A368_0 (rd_L1 x3_2 x24_2).length c368_0) (rd_L1 x3_2 x24_2) (rd (rd_L1 (rd_L5 l0 x18_1) x24_2) 0) [.int .u64 (rd (rd_L1 (rd_L5 l0 x18_1) x24_2) 0)] (fun k_ => oki20 k_ ∨ ((fun _ => True)) k_ ∧ w18.heap.size ≤ k_) (fun _ => False) rfl rfl ?aP (fun _ hk => hk.elim) ?aF ?aO ?aB ?aS ?aL ?_
                  (case aP => exact rfl)
                  (case aB => exact (bb HB))
                  (case aF => exact (fun k_ hk => .inr ⟨trivial,hk⟩))
                  (case aO => exact (by (with_reducible repeat (first|apply Kd.R_alloc|apply Kd.R_drewN|apply Kd.R_drew));exact Kd.R_mono UU20.out (fun _ hk => .inl hk)))
                  (case aS => exact (below_size (bb HB)))
                  (case aL => have := LMc16.out;omega)
                  intro v371 w21 ho hb hg hat
                  (first|have HS0_ := cell_grown hg (hHeld.1) (by first|(rw [add_block];exact (fun e_ => ((HL368_0.out.1 _ e_.symm).2) rfl))|(show some (Addr.add _ _).block ≠ _;rw [add_block];exact (fun e_ => ((HL368_0.out.1 _ e_.symm).2) rfl))|exact (fun e_ => ((HL368_0.out.1 _ e_.symm).2) rfl))|have HS0_ := cell_grown hg (cell_unalloc (hHeld.1) (by first|(rw [add_block];exact Kd.S_lt HO_3.out _ rfl)|(show (Addr.add _ _).block < _;rw [add_block];exact Kd.S_lt HO_3.out _ rfl)|exact Kd.S_lt HO_3.out _ rfl)) (by first|(rw [add_block];exact (fun e_ => ((HL368_0.out.1 _ e_.symm).2) rfl))|(show some (Addr.add _ _).block ≠ _;rw [add_block];exact (fun e_ => ((HL368_0.out.1 _ e_.symm).2) rfl))|exact (fun e_ => ((HL368_0.out.1 _ e_.symm).2) rfl)))
                  rw [← Ny370.out] at ho
                  have n0_ := am (hb)
                  have n1_ := am (Kd.H_grown (Kd.H_widen (by repeat (first|exact HH20.out|refine Kd.H_alloc ?_ _|refine Kd.H_drewN ?_ _|refine Kd.H_drew ?_))) hg (fun k_ e_ => .inl (UU20.out.1 k_ e_)))
                  have n2_ := am (ho)
                  clear HB
                  clear HH20
                  clear HO_3
                  clear UU20
                  clear HL368_0
                  have HB := n0_
                  have HH20 := n1_
                  have HO372 := n2_
                  clear n0_ n1_ n2_
                  clear ho hb hg hat
                  have p17 : 0 ≤ (x24_2 : Int) := od
                  have q17 : (x24_2 : Int) < ((x3_2.length : Int) : Int) := od
                  replace p17 := eq_true p17
                  replace q17 := eq_true q17
                  obtain ⟨Ao24,co24,eo24⟩ := Kd.R_slice HO372.out
                  (first|subst eo24|(injection eo24 with f1_ f2_ f3_;have f4_ := f1_.symm;have f5_ := f3_.symm;clear f1_ f2_ f3_;subst f4_;subst f5_))
                  obtain ⟨_,_,hraw22,_,_,hcc22,_⟩ := Kd.H_raw HH20.out (od) (by have h_ : (x24_2 : Int) < ((x3_2.length : Int) : Int) := od;first|exact h_|(have e_ := (HN20.out);omega)|simpa using h_)
                  obtain ⟨_,hfr22⟩ := Kd.H_at HH20.out (od) (by have h_ : (x24_2 : Int) < ((x3_2.length : Int) : Int) := od;first|exact h_|(have e_ := (HN20.out);omega)|simpa using h_)
                  have hx22_0 := hcc22 0 _ rfl
                  have hf22_0 := hfr22 0
                  (try simp only [Nat.add_zero] at hx22_0 hf22_0)
                  (try rw [show ((Kd.slice 22 (Kd.int .u64))).sz = 1 from rfl,Nat.mul_one] at hx22_0)
                  (try rw [show ((Kd.slice 22 (Kd.int .u64))).sz = 1 from rfl,Nat.mul_one] at hf22_0)
                  have HP22 := Kd.S_seg0 HH20.out (od) (by have h_ : (x24_2 : Int) < ((x3_2.length : Int) : Int) := od;first|exact h_|(have e_ := (HN20.out);omega)|simpa using h_) (seg := [.slice Ao24 y370.length co24]) (j := 0) (show 1 ≤ 1 from by decide) (x' := y370) (Kd.M_row HO372.out) (fun _ hk => hk)
                  (try simp only [show ((Kd.slice 22 (Kd.int .u64))).sz = 1 from rfl,Nat.mul_one,Nat.add_zero] at HP22)
                  clear hcc22 hfr22
                  have HS22 := HP22.1
                  rw [← Ny373.out] at HS22
                  have HQ22 := am HS22
                  obtain ⟨_,hgg22⟩ := Kd.R_typed hraw22 go20 rfl
                  have GG22_ := am hgg22
                  clear HP22 HS22 hgg22
                  refine hK.out _ _ ⟨HS0_,((HB.out.cell (World.block_lt_of_cell? w _ hw369_0)).trans hw369_0)⟩ (fun hHeld => ?_)
                  clear hK K
                  refine nm 39 ?_
                  refine pk 11 40 (bz 13 4095) HT_ ?_
                  refine last_ (i := 12) (N := none) (bz 13 8191) rfl rfl (one_of HT_.out (by kernel_rfl)) (by decide) (fun K hK => ?_)
                  refine skip_ (w1 := ?_) (by rfl) rfl ?_ ?_
                  rotate_left
                  ·go_simp
                   rfl
                  refine hK.out _ _ ?_
                  clear hK K
                  refine done_ (done_of HT_.out (by kernel_rfl)) ?_
                  try go_wp2
                  go_roundg k2
                  case measure => have := HK1.out;have := HK2.out;omega
                  case rel => exact ⟨(y373),(wrap64 (x24_2 + 1)),(by first|rfl|(simp;done)|(simp [*];done)),H',⟨by have := HK1.out;have := HK2.out;omega⟩,⟨by (with_reducible repeat (first|apply Kd.S_alloc|apply Kd.S_drewN|apply Kd.S_drew));exact HQ22.out⟩,⟨by repeat (first|(with_reducible first|exact HB.out|apply below_alloc|apply pw_below_drewN|apply below_drew1|refine below_set ?_ GB20.out)|exact HB.out)⟩⟩
                 ·rw [if_neg c16] at H
                  exact absurd H (by simp)
                ·rw [if_neg c15] at H
                 exact absurd H (by simp)
               ·rw [if_neg c14] at H
                exact absurd H (by simp)
              ·rw [if_neg c13] at H
               exact absurd H (by simp)
             ·rw [if_neg c12] at H
              exact absurd H (by simp)
            ·rw [if_neg c11] at H
             have c11b0 : decide (x24_2 < ((rd_L5 l0 x18_1).length : Int)) = false := decide_eq_false c11
             clear c11
             have H' := am H
             clear H
             go_wp2
             go_roundg k2
             case measure => have := HK1.out;have := HK2.out;omega
             case rel => exact ⟨(x3_2),(wrap64 (x18_1 + 1)),(by first|rfl|(simp;done)|(simp [*];done)),H',⟨by have := HK1.out;have := HK2.out;omega⟩,⟨by (with_reducible repeat (first|apply Kd.S_alloc|apply Kd.S_drewN|apply Kd.S_drew));exact HO_3.out⟩,⟨bb HB⟩⟩
         ·rw [if_neg c10] at H
          exact absurd H (by simp)
        ·rw [if_neg c9] at H
         exact absurd H (by simp)
       ·rw [if_neg c8] at H
        have c8b0 : decide (x18_1 < (l0.length : Int)) = false := decide_eq_false c8
        clear c8
        obtain rfl := Option.some.inj H
        go_wp2
        go_ret
        exact ⟨_,by first|rfl|(simp [errW_none,errW_some] <;> rfl)|(simp [*,errW_none,errW_some] <;> rfl),by (with_reducible repeat (first|apply Kd.S_alloc|apply Kd.S_drewN|apply Kd.S_drew));exact HO_3.out,bb HB⟩
    ·rw [if_neg c5] at H
     exact absurd H (by simp)
   ·rw [if_neg c4] at H
    exact absurd H (by simp)
  ·rw [if_neg c3] at H
   exact absurd H (by simp)
end Go.Proofs.Ytjnkkfdlcbcelaa.Pr
end
section
namespace Go.Proofs.Ytjnkkfdlcbcelaa.E
open Go.RowKit Go.Proofs.Ytjnkkfdlcbcelaa.Pr Go.Proofs.Ytjnkkfdlcbcelaa.Hw Go.Proofs.Ytjnkkfdlcbcelaa.Pl Go.Proofs.YtjnkkfdlcbcelaaW.PrintWords Go.Proofs.YtjnkkfdlcbcelaaW.PrintLast Go.Proofs.YtjnkkfdlcbcelaaW.PrintMore
def Shr (p : Int) (l : List (List Int)) (n m : Nat) : Prop := l.length = n ∧ ∀ x ∈ l,x.length = m ∧ ∀ y ∈ x,Res p y
theorem getD_memR {l : List (List Int)} {i : Nat} (h : i < l.length) : l.getD i [] ∈ l := by
 rw [List.getD_eq_getElem?_getD,List.getElem?_eq_getElem h];exact List.getElem_mem _
theorem Shr.row {p : Int} {l : List (List Int)} {n m : Nat} (h : Shr p l n m) {i : Nat} (hi : i < n) : (l.getD i []).length = m ∧ ∀ y ∈ l.getD i [],Res p y := h.2 _ (getD_memR (by rw [h.1];exact hi))
theorem rz_length (op : Int → Int → Int) {l1 l2 : List (List Int)} (hl : l1.length ≤ l2.length) : (rowsZ op l1 l2).length = l1.length := by unfold rowsZ;simp;omega
theorem rz_getElem (op : Int → Int → Int) {l1 l2 : List (List Int)} {i : Nat} (h : i < (rowsZ op l1 l2).length) (h1 : i < l1.length) (h2 : i < l2.length) : (rowsZ op l1 l2)[i] = List.zipWith op l1[i] l2[i] := by simp [rowsZ]
theorem rz_len2 {op : Int → Int → Int} {l1 l2 : List (List Int)} {i : Nat} (h : i < (rowsZ op l1 l2).length) : i < l1.length ∧ i < l2.length := by
 unfold rowsZ at h;rw [List.length_zipWith] at h;omega
theorem rd_zero (l : List Int) : rd l 0 = l.getD 0 0 := rfl
theorem rz_shr {p : Int} {op : Int → Int → Int} (hop : ∀ x y,Res p (op x y)) {l1 l2 : List (List Int)} {n m : Nat} (h1 : Shr p l1 n m) (h2 : Shr p l2 n m) : Shr p (rowsZ op l1 l2) n m := by
 refine ⟨by rw [rz_length op (by rw [h1.1,h2.1];exact Nat.le_refl _)];exact h1.1,fun x hx => ?_⟩
 obtain ⟨i,hi,rfl⟩ := List.getElem_of_mem hx
 have hi' := rz_len2 hi
 rw [rz_getElem op hi hi'.1 hi'.2]
 have a1 := h1.2 _ (List.getElem_mem hi'.1)
 have a2 := h2.2 _ (List.getElem_mem hi'.2)
 refine ⟨by rw [List.length_zipWith,a1.1,a2.1,Nat.min_self],fun y hy => ?_⟩
 obtain ⟨j,hj,rfl⟩ := List.getElem_of_mem hy
 rw [List.getElem_zipWith]
 exact hop _ _
theorem fits_shr {p : Int} {l1 l2 : List (List Int)} {n m : Nat} (h1 : Shr p l1 n m) (h2 : Shr p l2 n m) (hn : n ≤ 1000) (hm : m ≤ 1000) : fitsB p l1 l2 = true := by
 refine fitsB_iff.2 ⟨by rw [h1.1,h2.1];exact Nat.le_refl _,by rw [h1.1];omega,fun i hi => ?_⟩
 rw [rdL_nat,rdL_nat]
 have a1 := h1.row (i := i) (by rw [← h1.1];exact hi)
 have a2 := h2.row (i := i) (by rw [← h1.1];exact hi)
 exact ⟨by rw [a1.1,a2.1];exact Nat.le_refl _,by rw [a1.1];omega,a1.2,a2.2⟩
theorem sadd_eq {p : Int} (hp : Supp p) {l1 l2 : List (List Int)} {n m : Nat} (h1 : Shr p l1 n m) (h2 : Shr p l2 n m) (hn : n ≤ 1000) (hm : m ≤ 1000) : shamir_Add.f p l1 l2 = some (rowsZ (fun x y => (x + y) % p) l1 l2) := by
 unfold shamir_Add.f
 rw [if_pos (supB_iff.2 hp),if_pos (fits_shr h1 h2 hn hm)]
theorem ssub_eq {p : Int} (hp : Supp p) {l1 l2 : List (List Int)} {n m : Nat} (h1 : Shr p l1 n m) (h2 : Shr p l2 n m) (hn : n ≤ 1000) (hm : m ≤ 1000) : shamir_Sub.f p l1 l2 = some (rowsZ (fun x y => (x - y) % p) l1 l2) := by
 unfold shamir_Sub.f
 rw [if_pos (supB_iff.2 hp),if_pos (fits_shr h1 h2 hn hm)]
theorem sscale_eq {p c : Int} (hp : Supp p) (hc : Res p c) {l2 : List (List Int)} {n m : Nat} (h2 : Shr p l2 n m) (hn : n ≤ 1000) (hm : m ≤ 1000) : shamir_Scale.f p c l2 = some (rowsZ (fun x y => (c * x) % p) l2 l2) := by
 unfold shamir_Scale.f
 rw [if_pos (supB_iff.2 hp),if_pos (resB_iff.2 hc),if_pos (fits_shr h2 h2 hn hm)]
def constL (c : Int) (n m : Nat) : List (List Int) := List.replicate n ((List.replicate m 0).set 0 c)
theorem constL_next (c : Int) (n m : Nat) : constL c n m ++ [(List.replicate m 0).set 0 c] = constL c (n + 1) m := by unfold constL;rw [List.replicate_succ']
theorem constL_length (c : Int) (n m : Nat) : (constL c n m).length = n := by simp [constL]
theorem constL_shr {p c : Int} (hp : Supp p) (hc : Res p c) (n m : Nat) : Shr p (constL c n m) n m := by
 refine ⟨constL_length _ _ _,fun x hx => ?_⟩
 have := (List.mem_replicate.1 hx).2
 subst this
 refine ⟨by simp,fun y hy => ?_⟩
 rcases List.mem_or_eq_of_mem_set hy with h|h
 ·rw [(List.mem_replicate.1 h).2];have := hp.bd;exact ⟨by omega,by omega⟩
 ·rw [h];exact hc
theorem sconst_ev {P N T c : Int} (h0 : 0 ≤ N) (hN : N ≤ 1000) (hT : 0 ≤ T) (hT2 : T ≤ 1000) : Ev (fun k => shamir_Constant.f k P N T c) (constL c N.toNat (T.toNat + 1)) := by
 have hw : wrap64 (T + 1) = ((T.toNat + 1 : Nat) : Int) := by rw [wcap (by omega) (by omega)];omega
 have h := up (Q := fun i => Ev (fun k => shamir_Constant.l0 k c (constL c i (T.toNat + 1)) N (i : Int) P N T) (constL c N.toNat (T.toNat + 1))) (n := N.toNat) ?_ fun i hi h => ?_
 ·unfold shamir_Constant.f;exact h
 ·refine Ev.step (fun k => ?_) (Ev.now _)
  simp only [shamir_Constant.l0]
  rw [if_neg (by omega)]
 ·rw [← constL_next] at h
  refine Ev.step (fun k => ?_) h
  simp only [shamir_Constant.l0]
  rw [hw,if_pos (by omega),if_pos (by omega),if_pos (by omega),Option.bind_some,if_pos (by rw [List.length_replicate];omega),if_pos (by rw [constL_length];omega),wnat (by omega)]
  rfl
def lsR (l : List (List (List Int))) (i : Nat) : List Int := l.map fun a => (a.getD i []).getD 0 0
def lsL (l : List (List (List Int))) (n : Nat) : List (List Int) := (List.range n).map (lsR l)
def Shs (l : List (List (List Int))) (n : Nat) : Prop := ∀ a ∈ l,a.length = n ∧ ∀ x ∈ a,0 < x.length
theorem getD_memS {l : List (List (List Int))} {i : Nat} (h : i < l.length) : l.getD i [] ∈ l := by
 rw [List.getD_eq_getElem?_getD,List.getElem?_eq_getElem h];exact List.getElem_mem _
theorem rdS_nat (l : List (List (List Int))) (i : Nat) : rd_L5 l (i : Int) = l.getD i [] := by unfold rd_L5;rw [Int.toNat_natCast]
theorem lsR_take (l : List (List (List Int))) (i q : Nat) (hq : q < l.length) : lsR (l.take q) i ++ [((l.getD q []).getD i []).getD 0 0] = lsR (l.take (q + 1)) i := by
 unfold lsR
 rw [List.take_succ_eq_append_getElem hq,List.map_append,List.getD_eq_getElem?_getD (l := l),List.getElem?_eq_getElem hq];rfl
theorem lsR_length (l : List (List (List Int))) (i : Nat) : (lsR l i).length = l.length := by simp [lsR]
theorem lsL_length (l : List (List (List Int))) (n : Nat) : (lsL l n).length = n := by simp [lsL]
def lsS (l : List (List (List Int))) (n q i : Nat) : List (List Int) := (List.range n).map fun r => lsR (l.take (if r < i then q + 1 else q)) r
theorem lsS_length (l : List (List (List Int))) (n q i : Nat) : (lsS l n q i).length = n := by simp [lsS]
theorem lsS_getD (l : List (List (List Int))) (n q i r : Nat) (h : r < n) : (lsS l n q i).getD r [] = lsR (l.take (if r < i then q + 1 else q)) r := by
 unfold lsS;rw [List.getD_eq_getElem?_getD,List.getElem?_map,List.getElem?_range h];rfl
theorem lsS_zero (l : List (List (List Int))) (n : Nat) : lsS l n 0 0 = List.replicate n [] := by
 refine List.ext_getElem (by simp [lsS]) fun i h1 h2 => by simp [lsS,lsR]
theorem lsS_row (l : List (List (List Int))) (n q : Nat) : lsS l n q n = lsS l n (q + 1) 0 := by
 unfold lsS
 refine List.map_congr_left fun r hr => ?_
 rw [if_pos (List.mem_range.1 hr),if_neg (by omega)]
theorem lsS_all (l : List (List (List Int))) (n : Nat) : lsS l n l.length 0 = lsL l n := by
 unfold lsS lsL
 refine List.map_congr_left fun r _ => ?_
 rw [if_neg (by omega),List.take_length]
theorem lsS_next (l : List (List (List Int))) (n q i : Nat) (hi : i < n) (hq : q < l.length) : (lsS l n q i).set i ((lsS l n q i).getD i [] ++ [((l.getD q []).getD i []).getD 0 0]) = lsS l n q (i + 1) := by
 rw [lsS_getD l n q i i hi,if_neg (by omega),lsR_take l i q hq]
 refine List.ext_getElem (by simp [lsS]) fun r h1 h2 => ?_
 rw [lsS_length] at h2
 rw [List.getElem_set]
 by_cases e : i = r
 ·subst e
  rw [if_pos rfl]
  simp [lsS]
 ·rw [if_neg e]
  simp only [lsS,List.getElem_map,List.getElem_range]
  by_cases h3 : r < i
  ·rw [if_pos h3,if_pos (by omega)]
  ·rw [if_neg h3,if_neg (by omega)]
theorem slocal_ev {l : List (List (List Int))} {n : Nat} (hl : 0 < l.length) (hl2 : l.length ≤ 1000) (hs : Shs l n) (hn : n ≤ 1000) : Ev (fun k => shamir_LocalShares.f k l) (lsL l n) := by
 have h00 := hs _ (getD_memS hl)
 have hz : (rd_L5 l 0).length = n := by rw [show (0 : Int) = ((0 : Nat) : Int) from rfl,rdS_nat];exact h00.1
 have h := up (Q := fun q => Ev (fun k => shamir_LocalShares.l0 k (lsS l n q 0) l (l.length : Int) (q : Int)) (lsL l n)) (n := l.length) ?_ fun q hq h => ?_
 ·unfold shamir_LocalShares.f
  refine Ev.congr (fun k => ?_) h
  rw [if_neg (by omega),if_pos (by omega),hz,if_pos (by omega),if_pos (by omega),lsS_zero];rfl
 ·refine Ev.step (fun k => ?_) (Ev.now _)
  simp only [shamir_LocalShares.l0]
  rw [if_neg (by omega),lsS_all]
 ·rw [← lsS_row] at h
  have hq2 := hs _ (getD_memS hq)
  have h' := up (Q := fun i => Ev (fun k => shamir_LocalShares.l1 k (lsS l n q i) l (l.length : Int) (q : Int) (l.getD q []) (n : Int) (i : Int)) (lsL l n)) (n := n) ?_ fun i hi h' => ?_
  ·refine Ev.step (fun k => ?_) h'
   simp only [shamir_LocalShares.l0,rdS_nat]
   rw [if_pos (by omega),if_pos (by omega),if_pos (by omega),hq2.1];rfl
  ·refine Ev.step (fun k => ?_) h
   simp only [shamir_LocalShares.l1]
   rw [if_neg (by omega),wnat (by omega)]
  ·have hrow := hq2.2 _ (getD_memR (show i < (l.getD q []).length by omega))
   rw [← lsS_next l n q i hi hq] at h'
   refine Ev.step (fun k => ?_) h'
   simp only [shamir_LocalShares.l1,rdL_nat]
   rw [if_pos (by omega),if_pos (by omega),if_pos (by omega),if_pos (by rw [lsS_length];omega),if_pos (by omega),if_pos (by rw [lsS_getD l n q i i hi,lsR_length,List.length_take];omega),wnat (by omega),Int.toNat_natCast]
   rw [rd_zero]
def setB (P N T : Int) : Bool := decide (4 ≤ N) && (decide (N ≤ 13) && (decide (N < P) && (decide (1 ≤ T) && (decide (T < N) && decide (3 * T < N)))))
theorem setups_eq {P N T : Int} (hP : 0 ≤ P) : privitylaw09_setups.f P N T = some (setB P N T) := by
 unfold privitylaw09_setups.f setB
 by_cases h1 : N ≥ 4
 ·rw [if_pos h1,decide_eq_true (show 4 ≤ N from h1),Bool.true_and]
  by_cases h2 : N ≤ 13
  ·rw [if_pos h2,decide_eq_true h2,Bool.true_and,wrapU_id (by omega) (by omega)]
   by_cases h3 : N < P
   ·rw [if_pos h3,decide_eq_true h3,Bool.true_and]
    by_cases h4 : T ≥ 1
    ·rw [if_pos h4,decide_eq_true (show 1 ≤ T from h4),Bool.true_and]
     by_cases h5 : T < N
     ·rw [if_pos h5,decide_eq_true h5,Bool.true_and,wcap (by omega) (by omega)]
     ·rw [if_neg h5,decide_eq_false h5,Bool.false_and]
    ·rw [if_neg h4,decide_eq_false (show ¬ 1 ≤ T from h4),Bool.false_and]
   ·rw [if_neg h3,decide_eq_false h3,Bool.false_and]
  ·rw [if_neg h2,decide_eq_false h2,Bool.false_and]
 ·rw [if_neg h1,decide_eq_false (show ¬ 4 ≤ N from h1),Bool.false_and]
theorem setB_iff {P N T : Int} : setB P N T = true ↔ 4 ≤ N ∧ N ≤ 13 ∧ N < P ∧ 1 ≤ T ∧ T < N ∧ 3 * T < N := by unfold setB;simp only [Bool.and_eq_true,decide_eq_true_eq]
end Go.Proofs.Ytjnkkfdlcbcelaa.E
end
