/- Part 4 of the proof's texts, joined in build order. -/
import Derived.Test.YtmdoaijkaaaglaaZKK3
import Derived.Test.YtmdoaijkaaaglaaZKK1
set_option linter.unusedVariables false
set_option linter.unusedSimpArgs false
section
namespace Go.Proofs.Ytmdoaijkaaaglaa.Hw
open Go.RowKit Go.Proofs.Ytmdoaijkaaaglaa.Pr Go.Proofs.YtmdoaijkaaaglaaW.PrintWords Go.Proofs.YtmdoaijkaaaglaaW.PrintLast Go.Proofs.YtmdoaijkaaaglaaW.PrintMore Go.Proofs.Ytmdoaijkaaaglaa.E
structure Wk1 (w : World) (base bw : Nat) (p : Int) (mv : Value) (vs0 vs : List Value) (l : List (List Int)) (i : Nat) : Prop where
 hbw : base ≤ bw
 box : w.heap[bw]? = some (.cells #[.int .u64 p,mv,.slice none 0 0,.int .u64 1] 84 (0,0))
 arr : w.ownsRow base 40 1 mv vs.length vs
 len : vs.length = l.length
 old : ∀ j,i ≤ j → vs[j]? = vs0[j]?
 row : ∀ (j : Nat) v r,j < i → vs[j]? = some v → l[j]? = some r → w.ownsRow base 22 1 v r.length (nums .u64 r)
 apart : ∀ (a b g : Nat) u v,a < i → b < i → vs[a]? = some u → vs[b]? = some v → u.ownBlock = some g → v.ownBlock = some g → a = b
section
variable {w w1 : World} {base bw : Nat} {p : Int} {vs0 vs : List Value} {l : List (List Int)} {i : Nat}
theorem Wk1.below {mv : Value} (h : Wk1 w base bw p mv vs0 vs l i) (hb : Below w.heap.size w w1) : Wk1 w1 base bw p mv vs0 vs l i :=
 ⟨h.hbw,blk_below h.box hb,own_below0 h.arr hb,h.len,h.old,fun j v r hj hv hr => own_below0 (h.row j v r hj hv hr) hb,h.apart⟩
theorem Wk1.ahead {bo m co j : Nat} (h : Wk1 w base bw p (.slice (some ⟨bo,0,none⟩) m co) vs0 vs l i) {v : Value} (hv : vs[j]? = some v) : w.cell? ⟨bo,j,none⟩ = some v := by
 have := h.arr.cells (g := bo) rfl j v hv
 rwa [Addr.add_lit,Nat.zero_add] at this
theorem Wk1.afz {bo m co : Nat} (h : Wk1 w base bw p (.slice (some ⟨bo,0,none⟩) m co) vs0 vs l i) (j : Nat) : w.frozen? ⟨bo,j,none⟩ = false := by
 obtain ⟨cs,hc⟩ := own_typed2 (g := bo) h.arr rfl
 exact blk_frozen hc j
theorem Wk1.step {bo m co : Nat} (h : Wk1 w base bw p (.slice (some ⟨bo,0,none⟩) m co) vs0 vs l i) (hb : Below w.heap.size w w1) {v : Value} {r : List Int} (hr : l[i]? = some r) (hv : Kd.R (Kd.int .u64) 22 w1 w.heap.size (fun _ => True) v r) (hbase : base ≤ w.heap.size) :
  Wk1 (w1.setCell ⟨bo,i,none⟩ v) base bw p (.slice (some ⟨bo,0,none⟩) m co) vs0 (vs.set i v) l (i + 1) := by
 have h1 := h.below hb
 have hvo : w1.ownsRow w.heap.size 22 1 v r.length (nums .u64 r) := Kd.own_of_R hv
 have hil : i < vs.length := by rw [h.len];exact (List.getElem?_eq_some_iff.1 hr).1
 have hm : m = vs.length := by
  rcases h.arr.2 with ⟨h1,_⟩|⟨_,_,_,h1,_⟩
  ·simp at h1
  ·simp only [Value.slice.injEq] at h1;exact h1.2.1
 subst hm
 obtain ⟨cs,hc⟩ := own_typed2 (g := bo) h1.arr rfl
 have hbb : bw ≠ bo := by
  rintro rfl
  have hb := h1.box
  rw [hc] at hb
  injection hb with hb
  injection hb with _ hb
  exact absurd hb (by decide)
 have far : ∀ {e : TypeId} {n : Nat} {v' : Value} {xs : List Value},e ≠ 40 → w1.ownsRow base e 1 v' n xs → (w1.setCell ⟨bo,i,none⟩ v).ownsRow base e 1 v' n xs := fun he ho => own_far0 ho (own_ne0 ho hc he)
 have hnew : ∀ g,v.ownBlock = some g → w.heap.size ≤ g := fun g hg => own_base hvo g hg
 have hold : ∀ (j : Nat) u g,j < i → vs[j]? = some u → u.ownBlock = some g → g < w.heap.size := by
  intro j u g hj hu hg
  have hjl : j < l.length := by rw [← h.len];exact (List.getElem?_eq_some_iff.1 hu).1
  exact own_lt (h.row j u _ hj hu (List.getElem?_eq_getElem hjl)) g hg
 refine ⟨h.hbw,(Below.heap_setCell _ ⟨bo,i,none⟩ v bw hbb).trans h1.box,by rw [List.length_set];exact (h1.arr.stored i v).1,by rw [List.length_set];exact h.len,?_,?_,?_⟩
 ·intro j hj
  rw [List.getElem?_set_ne (by omega)]
  exact h.old j (by omega)
 ·intro j u r' hj hu hr'
  by_cases e : i = j
  ·subst e
   rw [List.getElem?_set_self hil] at hu
   rw [hr] at hr'
   obtain rfl := Option.some.inj hu
   obtain rfl := Option.some.inj hr'
   exact far (by decide) (own_weaken hvo hbase)
  ·rw [List.getElem?_set_ne e] at hu
   exact far (by decide) (h1.row j u r' (by omega) hu hr')
 ·intro a b g x y ha hb hx hy hgx hgy
  by_cases e1 : i = a
  ·by_cases e2 : i = b
   ·omega
   ·subst e1
    rw [List.getElem?_set_self hil] at hx
    rw [List.getElem?_set_ne e2] at hy
    obtain rfl := Option.some.inj hx
    have := hnew g hgx
    have := hold b y g (by omega) hy hgy
    omega
  ·by_cases e2 : i = b
   ·subst e2
    rw [List.getElem?_set_self hil] at hy
    rw [List.getElem?_set_ne e1] at hx
    obtain rfl := Option.some.inj hy
    have := hnew g hgy
    have := hold a x g (by omega) hx hgx
    omega
   ·rw [List.getElem?_set_ne e1] at hx
    rw [List.getElem?_set_ne e2] at hy
    exact h.apart a b g x y (by omega) (by omega) hx hy hgx hgy
theorem Wk1.wk {mv : Value} (h : Wk1 w base bw p mv vs0 vs l i) (hi : l.length ≤ i) : Wk w base bw p mv vs l (.slice none 0 0) [] 1 :=
 ⟨h.hbw,h.box,h.arr,h.len.symm,fun j v r hv hr => h.row j v r (by have := (List.getElem?_eq_some_iff.1 hr).1;omega) hv hr,fun a b g x y hx hy hgx hgy => h.apart a b g x y (by have := (List.getElem?_eq_some_iff.1 hx).1;have := h.len;omega) (by have := (List.getElem?_eq_some_iff.1 hy).1;have := h.len;omega) hx hy hgx hgy,World.ownsRow_nil _ _ _ _⟩
end
def FndR (m q : Nat) (v : Value) : Prop := (v = .int .i64 (-1) ∧ q = m) ∨ (v = .int .i64 (q : Int) ∧ q < m)
def FndA (q a : Nat) (v : Value) : Prop := (v = .int .i64 (-1) ∧ a ≤ q) ∨ (v = .int .i64 (q : Int) ∧ q < a)
set_option maxHeartbeats 8000000 in
set_option maxRecDepth 100000 in
theorem reduce_walk (p : Int) (hp : Supp p) (A : Option Addr) (c : Nat) (l : List (List Int)) (n k : Nat) (w : World) (hr : Kd.C (Kd.slice 22 (Kd.int .u64)) w A l.length l) (hc : l.length ≤ c) (h0 : 0 < l.length) (hl : l.length ≤ 1000) (hn0 : 0 < n) (hn : n ≤ 1000) (hok : RowsOk p n l) (hk : k ≤ n) :
  Calls Try.prog 54 #[.int .u64 p,.slice A l.length c,.int .i64 (k : Int)] w fun e w' => Aside0 (∃ bw mv vs pv,e = .returned (.pointer (some ⟨bw,0,none⟩)) ∧ Wk w' w.heap.size bw p mv vs (red p l k).1 pv (red p l k).2.1 (red p l k).2.2) ∧ Below w.heap.size w w' := by
 have HCL := am (clone_rows A c l w hr hc h0 (by omega))
 have HOK := am hok
 have HP := am hp
 clear hr hok
 go_enter Try.func54,Try.ntmps54
 go_wp2_with (first
  | (go_at_call 85;(with_reducible refine HCL.out.mono ?_);rintro e w1 ⟨v1,vs0,rfl,ho1,hb1⟩;have HO1 := ho1;have HB1 := am hb1;clear ho1 hb1;obtain ⟨bo,co,ev1,hbo,_,hco⟩ := own_form0 HO1.out.2 (by rw [HO1.out.1.1];exact h0);rw [HO1.out.1.1] at ev1 hco;subst ev1)
  | ((with_reducible refine gate_dst (N := 27) rfl ?_);refine box_event ?hg (N := 27) ?hd (cs := #[.int .u64 p,.slice (some ⟨bo,0,none⟩) l.length co,.slice none 0 0,.int .u64 1]) (t := 84) ?hr ?_;(case hd => rfl);(case hg => rfl);(case hr => first|(go_simp;done)|(go_simp;rfl));intro bw hbw w2 hbox2 hb2;have HBW := am hbw;have HBX := am hbox2;have HB2 := am (below_step HB1.out hb2);have HW1 := am (show Wk1 w2 w.heap.size bw p (.slice (some ⟨bo,0,none⟩) l.length co) vs0 vs0 l 0 from ⟨by rw [hbw];exact below_size HB1.out,hbox2,by have := own_below0 HO1.out.2 hb2;exact this,HO1.out.1.1,fun j _ => rfl,fun j v r hj => by omega,fun a b g x y ha => by omega⟩);clear hbw hbox2 hb2;have hc1 : w2.cell? ⟨bw,1,none⟩ = some (.slice (some ⟨bo,0,none⟩) l.length co) := (blk_cell HBX.out 1).trans rfl))
 clear HCL HBW HBX
 go_loopg [33] l.length (fun kq v33 w' => ∃ (i : Nat) (vs : List Value),v33 = .int .i64 (i : Int) ∧ Aside0 (kq + i = l.length) ∧ Aside0 (Wk1 w' w.heap.size bw p (.slice (some ⟨bo,0,none⟩) l.length co) vs0 vs l i) ∧ Aside0 (Below w.heap.size w w'))
 case atStart => exact ⟨0,vs0,rfl,⟨rfl⟩,HW1,HB2⟩
 case round =>
  as_aux_lemma =>
   clear HW1 HB1 HB2 hc1
   obtain ⟨i,vs,rfl,HK,HW,HB⟩ := hrel
   by_cases hlt : i < l.length
   ·
    have q1 : ((i : Int) < (l.length : Int)) = True := eq_true (by omega)
    have q2 : decide (i < l.length) = true := decide_eq_true hlt
    have p1 : ((0 : Int) ≤ (i : Int)) = True := eq_true (by omega)
    obtain ⟨Ar,cr,hv0,hcr,hCr⟩ := HO1.out.1.2 i l[i] (List.getElem?_eq_getElem hlt)
    have hri : l[i]? = some l[i] := List.getElem?_eq_getElem hlt
    have hrn := (HOK.out.at hlt).1
    obtain ⟨r,her⟩ : ∃ r,r = l[i] := ⟨_,rfl⟩
    rw [← her] at hv0 hcr hCr hri hrn
    have hvi : vs[i]? = some (.slice Ar r.length cr) := (HW.out.old i (Nat.le_refl _)).trans hv0
    have hx := HW.out.ahead hvi
    have hm : wr.cell? ⟨bw,1,none⟩ = some (.slice (some ⟨bo,0,none⟩) l.length co) := (blk_cell HW.out.box 1).trans rfl
    have HRI := am hri
    have HVI := am hvi
    have HCC := am (clone_u64 Ar cr r wr.drew (Kd.C_drew (Kd.C_below hCr HB.out)) hcr (by omega))
    have HM := am hm
    clear hri hvi hv0 hCr her hrn
    go_wp2
    refine start_ (n := 9) (S := (fun w' => w'.cell? ⟨bw,1,none⟩ = some (.slice (some ⟨bo,0,none⟩) l.length co))) (ds := [8]) (bz 9 0) (by kernel_rfl) rfl rfl hm (fun hHeld => ?_)
    refine pu 0 38 (bz 9 1) ?_
    refine pu 1 39 (bz 9 3) ?_
    refine pu 2 40 (bz 9 7) ?_
    refine tu 3 41 (bz 9 15) hHeld ?_
    refine pu 4 42 (bz 9 31) ?_
    refine pu 5 43 (bz 9 63) ?_
    refine one_ (i := 6) (N := some 44) (bz 9 127) rfl rfl (by kernel_rfl) (by decide) (fun K hK => ?_)
    refine goes_ Try.func76 (by kernel_rfl) rfl #[.slice Ar r.length cr] (by rfl) rfl rfl (by (try simp only [List.map_toArray,List.map_cons,List.map_nil]);first|done|rfl) ?_
    with_reducible refine HCC.out.mono ?_
    rintro e w4 ⟨v4,rfl,ho4,hb4⟩
    refine ⟨_,rfl,?_⟩
    have HB4 := am (show Below wr.heap.size wr w4 from below_step (below_drew (Below.refl _ _)) hb4)
    obtain ⟨A4,cc4,rfl⟩ := Kd.R_slice ho4
    have HO4 := am ho4
    refine hK.out _ _ (pw_cell_below HB4.out HM.out) (fun hHeld => ?_)
    clear hK K
    refine nm 44 ?_
    have HW4 := am (HW.out.step HB4.out HRI.out HO4.out (below_size HB.out))
    have f4 := (HW.out.below HB4.out).afz i
    have c4 := (HW.out.below HB4.out).ahead HVI.out
    clear hb4 ho4 hm hx
    refine pu 7 45 (bz 9 255) ?_
    refine last_ (i := 8) (N := none) (bz 9 511) rfl rfl (by kernel_rfl) (by decide) (fun K hK => ?_)
    refine skip_ (w1 := ?_) (by rfl) rfl ?_ ?_
    rotate_left
    ·go_simp
     rfl
    refine hK.out _ _ ?_
    clear hK K
    refine done_ (by kernel_rfl) ?_
    have HB5 := am ((below_step HB.out HB4.out).setCell (p := ⟨bo,i,none⟩) (by assumption) (.slice A4 r.length cc4))
    go_wp2
    go_roundg (l.length - (i + 1))
    case measure => have := HK.out;omega
    case rel => exact ⟨i + 1,_,by go_num,⟨by omega⟩,HW4,HB5⟩
   ·have q1 : ((i : Int) < (l.length : Int)) = False := eq_false (by omega)
    have q2 : decide (i < l.length) = false := decide_eq_false hlt
    have HWK := am (HW.out.wk (by omega))
    clear HW HK
    go_wp2
    go_loopg [48] k (fun kq v48 w' => ∃ (i : Nat) (vs : List Value) (pv : Value),v48 = .int .i64 (i : Int) ∧ Aside0 (kq + i = k) ∧ Aside0 (Wk w' w.heap.size bw p (.slice (some ⟨bo,0,none⟩) l.length co) vs (red p l i).1 pv (red p l i).2.1 (red p l i).2.2) ∧ Aside0 (Below w.heap.size w w'))
    case atStart => exact ⟨0,vs,_,rfl,⟨rfl⟩,HWK,HB⟩
    case round =>
     as_aux_lemma =>
      clear HWK HB q1 q2 HO1
      obtain ⟨i,vs,pv,rfl,HK,HW,HB⟩ := hrel
      by_cases hik : i < k
      ·have HRO := am (red_ok HP.out HOK.out i)
       obtain ⟨S,hS⟩ : ∃ S,S = red p l i := ⟨_,rfl⟩
       have HS := am (show red p l (i + 1) = redStep p S i by rw [hS,red_succ])
       rw [← hS] at HRO HW
       clear hS
       obtain ⟨rs,ps,det⟩ := S
       obtain ⟨m,hm⟩ : ∃ m,m = l.length := ⟨_,rfl⟩
       have HRL := am (show rs.length = m from HRO.out.len.trans hm.symm)
       have HRW := am (show RowsOk p n rs from HRO.out.rows)
       have hpm : ps.length ≤ m := by have := HRO.out.piv;rw [hm];exact this
       have HDT := am (show Res p det from HRO.out.det)
       have hm0 : 0 < m := by omega
       have hml : m ≤ 1000 := by omega
       rw [← hm] at HW
       have HW : Aside0 (Wk wr w.heap.size bw p (.slice (some ⟨bo,0,none⟩) m co) vs rs pv ps det) := HW
       have HM := am hm
       clear hm HRO
       obtain ⟨Ap,cp,epv⟩ : ∃ Ap cp,pv = .slice Ap ps.length cp := by
        rcases HW.out.piv.2 with ⟨h1,h2⟩|⟨g,cap,cur,h1,_⟩
        ·exact ⟨none,0,by rw [h1,h2]⟩
        ·exact ⟨_,_,h1⟩
       subst epv
       obtain ⟨q,hq⟩ : ∃ q,q = fndP rs i ps.length := ⟨_,rfl⟩
       have hq0 : ps.length ≤ q := by rw [hq];exact fndP_ge _ _ _
       have hq1 : q ≤ m := by rw [hq,← HRL.out];exact fndP_le _ _ _ (by rw [HRL.out];exact hpm)
       have HQ := am hq
       clear hq
       have g0 : decide (i < k) = true := decide_eq_true hik
       have g1 : ((i : Int) < (k : Int)) = True := eq_true (by omega)
       have c1 := HW.out.c1
       have c2 := HW.out.c2
       go_upto_block 4 with fail
       go_cut [12] (fun v12 wc => FndR m q v12 ∧ Aside0 (Wk wc w.heap.size bw p (.slice (some ⟨bo,0,none⟩) m co) vs rs (.slice Ap ps.length cp) ps det) ∧ Aside0 (Below w.heap.size w wc))
       case first =>
        as_aux_lemma =>
         clear c1 c2 g0 g1
         go_wp2_with fail
         go_loopg [12,13] (m - ps.length) (fun kq v12 v13 w' => ∃ (a : Nat),v13 = .int .i64 (a : Int) ∧ FndA q a v12 ∧ Aside0 (kq + a = m) ∧ Aside0 (ps.length ≤ a) ∧ Aside0 (Wk w' w.heap.size bw p (.slice (some ⟨bo,0,none⟩) m co) vs rs (.slice Ap ps.length cp) ps det) ∧ Aside0 (Below w.heap.size w w'))
         case atStart => exact ⟨ps.length,rfl,Or.inl ⟨rfl,hq0⟩,⟨by omega⟩,⟨Nat.le_refl _⟩,HW,HB⟩
         case round =>
          as_aux_lemma =>
           clear HW HB
           obtain ⟨a,rfl,hf,HKa,HA,HW,HB⟩ := hrel
           have c1 := HW.out.c1
           have ham : a ≤ m := by have := HKa.out;omega
           rcases hf with ⟨rfl,haq⟩|⟨rfl,hqa⟩
           ·by_cases hlt : a < m
            ·have q1 : ((a : Int) < (m : Int)) = True := eq_true (by omega)
             have q2 : decide (a < m) = true := decide_eq_true hlt
             have p1 : ((0 : Int) ≤ (a : Int)) = True := eq_true (by omega)
             have hal : a < rs.length := by rw [HRL.out];exact hlt
             have hrn := (HRW.out.at hal).1
             obtain ⟨b,cb,hv,_,_⟩ := HW.out.rform a hal (by omega)
             have hx := HW.out.ahead hv
             have hin : i < rs[a].length := by omega
             have hy := HW.out.rcell hv (List.getElem?_eq_getElem hal) hin
             have p2 : ((i : Int) < (rs[a].length : Int)) = True := eq_true (by omega)
             have p3 : ((0 : Int) ≤ (i : Int)) = True := eq_true (by omega)
             have hgd : (rs[a]).getD i 0 = rs[a][i] := by rw [List.getD_eq_getElem?_getD,List.getElem?_eq_getElem hin];rfl
             have HZ := am (show rs[a][i] = 0 → a ≠ q from fun h e => by
              subst e
              have e2 := HQ.out
              have := fndP_nz (rs := rs) (c := i) (r := ps.length) (by rw [← e2];exact hal)
              simp only [← e2] at this
              exact this (by rw [hgd];exact h))
             have HN := am (show rs[a][i] ≠ 0 → a = q from fun h => by
              by_cases e : a < q
              ·exact absurd (fndP_zero HA.out (by rw [← HQ.out];exact e) hal) (by rw [hgd];exact h)
              ·omega)
             obtain ⟨x,hxx⟩ : ∃ x,x = rs[a][i] := ⟨_,rfl⟩
             rw [← hxx] at hy HZ HN
             clear hxx hgd hrn hv
             by_cases hz : x = 0
             ·have z1 : (x != 0) = false := by simpa using hz
              have hne := HZ.out hz
              clear hz
              go_wp2
              go_roundg (m - (a + 1))
              case measure => have := HKa.out;omega
              case rel => exact ⟨a + 1,by go_num,Or.inl ⟨rfl,by omega⟩,⟨by omega⟩,⟨by have := HA.out;omega⟩,HW,HB⟩
             ·have z1 : (x != 0) = true := by simpa using hz
              have HE := am (HN.out hz)
              clear hz
              go_wp2
              go_roundg (m - (a + 1))
              case measure => have := HKa.out;omega
              case rel => exact ⟨a + 1,by go_num,Or.inr ⟨by rw [HE.out],by have := HE.out;omega⟩,⟨by omega⟩,⟨by have := HA.out;omega⟩,HW,HB⟩
            ·have q1 : ((a : Int) < (m : Int)) = False := eq_false (by omega)
             have q2 : decide (a < m) = false := decide_eq_false hlt
             go_wp2_with fail
             go_meet
             exact ⟨Or.inl ⟨rfl,by omega⟩,HW,HB⟩
           ·have z1 : ((q : Int) < 0) = False := eq_false (by omega)
            have z2 : decide ((q : Int) < 0) = false := decide_eq_false (by omega)
            by_cases hlt : a < m
            ·have q1 : ((a : Int) < (m : Int)) = True := eq_true (by omega)
             have q2 : decide (a < m) = true := decide_eq_true hlt
             go_wp2_with fail
             go_meet
             exact ⟨Or.inr ⟨rfl,by omega⟩,HW,HB⟩
            ·have q1 : ((a : Int) < (m : Int)) = False := eq_false (by omega)
             have q2 : decide (a < m) = false := decide_eq_false hlt
             go_wp2_with fail
             go_meet
             exact ⟨Or.inr ⟨rfl,by omega⟩,HW,HB⟩
       case rest =>
        as_aux_lemma =>
         obtain ⟨hf,HW,HB⟩ := hcut
         clear c1 c2
         rcases hf with ⟨rfl,hqm⟩|⟨rfl,hqm⟩
         ·
          have HSame := am (show redStep p (rs,ps,det) i = (rs,ps,det) from by
           unfold redStep
           rw [if_neg (by show ¬ fndP rs i ps.length < rs.length;rw [← HQ.out,HRL.out];omega)])
          clear hqm
          go_wp2
          go_roundg (k - (i + 1))
          case measure => have := HK.out;omega
          case rel => exact ⟨i + 1,vs,_,by go_num,⟨by omega⟩,by rw [HS.out,HSame.out,← HM.out];exact HW,HB⟩
         ·have hrm : ps.length < m := by omega
          have z1 : ((q : Int) < 0) = False := eq_false (by omega)
          have z2 : decide ((q : Int) < 0) = false := decide_eq_false (by omega)
          obtain ⟨rs1,hrs1⟩ : ∃ x,x = (if fndP rs i ps.length = ps.length then rs else swapR rs (fndP rs i ps.length) ps.length) := ⟨_,rfl⟩
          obtain ⟨d1,hd1⟩ : ∃ x,x = (if fndP rs i ps.length = ps.length then det else -det % p) := ⟨_,rfl⟩
          have HST := am (show redStep p (rs,ps,det) i = (elimAll p i ps.length (scaleR p (invp p ((rs1.getD ps.length []).getD i 0)) (rs1.getD ps.length [])) (rs1.set ps.length (scaleR p (invp p ((rs1.getD ps.length []).getD i 0)) (rs1.getD ps.length []))),ps ++ [(i : Int)],d1 * ((rs1.getD ps.length []).getD i 0) % p) from by
           unfold redStep
           rw [if_pos (by show fndP rs i ps.length < rs.length;rw [← HQ.out,HRL.out];exact hqm)]
           simp only [← hrs1,← hd1])
          have HRS := am hrs1
          have HD1 := am hd1
          clear hrs1 hd1
          go_upto_if 86 with fail
          go_cut [] (fun wc => ∃ vs1 : List Value,Aside0 (Wk wc w.heap.size bw p (.slice (some ⟨bo,0,none⟩) m co) vs1 rs1 (.slice Ap ps.length cp) ps d1) ∧ Aside0 (Below w.heap.size w wc))
          case first =>
           as_aux_lemma =>
            by_cases hqr : q = ps.length
            ·have z3 : ((q : Int) != (ps.length : Int)) = false := by rw [hqr];simp
             have HE := am hqr
             clear hqr
             go_wp2_with fail
             go_meet
             refine ⟨vs,?_,HB⟩
             rw [HRS.out,HD1.out,if_pos (by rw [← HQ.out];exact HE.out),if_pos (by rw [← HQ.out];exact HE.out)]
             exact HW
            ·have z3 : ((q : Int) != (ps.length : Int)) = true := by
              have : ¬ (q : Int) = (ps.length : Int) := by omega
              simpa using this
             have HE := am hqr
             clear hqr
             have p1 : ((0 : Int) ≤ (q : Int)) = True := eq_true (by omega)
             have p2 : ((q : Int) < (m : Int)) = True := eq_true (by omega)
             have p3 : ((0 : Int) ≤ (ps.length : Int)) = True := eq_true (by omega)
             have p4 : ((ps.length : Int) < (m : Int)) = True := eq_true (by omega)
             have p5 : decide (q < m) = true := decide_eq_true hqm
             have p6 : decide (ps.length < m) = true := decide_eq_true hrm
             have hql : q < rs.length := by rw [HRL.out];exact hqm
             have hrl : ps.length < rs.length := by rw [HRL.out];exact hrm
             obtain ⟨bq,cq,hvq,_,_⟩ := HW.out.rform q hql (by have := (HRW.out.at hql).1;omega)
             obtain ⟨br,cr,hvr,_,_⟩ := HW.out.rform ps.length hrl (by have := (HRW.out.at hrl).1;omega)
             have c1 := HW.out.c1
             have hx := HW.out.ahead hvq
             have hy := HW.out.ahead hvr
             rw [(HRW.out.at hql).1] at hx hvq
             rw [(HRW.out.at hrl).1] at hy hvr
             have HWS := am (HW.out.drew.swap q ps.length hvq hvr (List.getElem?_eq_getElem hql) (List.getElem?_eq_getElem hrl))
             have hy2 : (wc.setCell ⟨bo,q,none⟩ (.slice (some ⟨br,0,none⟩) n cr)).cell? ⟨bo,ps.length,none⟩ = some (.slice (some ⟨br,0,none⟩) n cr) := cell_other0 HE.out hy
             have hf1 := HW.out.afz q
             have hf2 := HW.out.afz ps.length
             clear hvq hvr
             go_upto_region 19 with fail
             go_cut [] (fun wd => Aside0 (Wk wd w.heap.size bw p (.slice (some ⟨bo,0,none⟩) m co) ((vs.set q (.slice (some ⟨br,0,none⟩) n cr)).set ps.length (.slice (some ⟨bq,0,none⟩) n cq)) ((rs.set q rs[ps.length]).set ps.length rs[q]) (.slice Ap ps.length cp) ps det) ∧ Aside0 (Below w.heap.size w wd))
             case first =>
              as_aux_lemma =>
               refine start_ (n := 28) (S := (fun w' => w'.cell? ⟨bw,1,none⟩ = some (.slice (some ⟨bo,0,none⟩) m co) ∧ w'.cell? ⟨bo,q,none⟩ = some (.slice (some ⟨bq,0,none⟩) n cq) ∧ w'.cell? ⟨bo,ps.length,none⟩ = some (.slice (some ⟨br,0,none⟩) n cr))) (ds := [25,27]) (bz 28 0) (by kernel_rfl) rfl rfl ⟨c1,hx,hy⟩ (fun hHeld => ?_)
               refine pu 0 87 (bz 28 1) ?_
               refine pu 1 88 (bz 28 3) ?_
               refine pu 2 89 (bz 28 7) ?_
               refine tu 3 90 (bz 28 15) hHeld ?_
               refine pu 4 91 (bz 28 31) ?_
               refine pu 5 92 (bz 28 63) ?_
               refine pu 6 93 (bz 28 127) ?_
               refine pu 7 94 (bz 28 255) ?_
               refine tu 8 95 (bz 28 511) hHeld ?_
               refine pu 9 96 (bz 28 1023) ?_
               refine pu 10 97 (bz 28 2047) ?_
               refine pu 11 98 (bz 28 4095) ?_
               refine pu 12 99 (bz 28 8191) ?_
               refine tu 13 100 (bz 28 16383) hHeld ?_
               refine pu 14 101 (bz 28 32767) ?_
               refine pu 15 102 (bz 28 65535) ?_
               refine tu 16 103 (bz 28 131071) hHeld ?_
               refine pu 17 104 (bz 28 262143) ?_
               refine pu 18 105 (bz 28 524287) ?_
               refine pu 19 106 (bz 28 1048575) ?_
               refine tu 20 107 (bz 28 2097151) hHeld ?_
               refine pu 21 108 (bz 28 4194303) ?_
               refine pu 22 109 (bz 28 8388607) ?_
               refine tu 23 110 (bz 28 16777215) hHeld ?_
               refine pu 24 111 (bz 28 33554431) ?_
               refine last_ (i := 25) (N := none) (bz 28 67108863) rfl rfl (by kernel_rfl) (by decide) (fun K hK => ?_)
               refine skip_ (w1 := ?_) (by rfl) rfl ?_ ?_
               rotate_left
               ·go_simp
                rfl
               refine hK.out _ _ ?_
               clear hK K
               refine pu 26 112 (bz 28 134217727) ?_
               refine last_ (i := 27) (N := none) (bz 28 268435455) rfl rfl (by kernel_rfl) (by decide) (fun K hK => ?_)
               refine skip_ (w1 := ?_) (by rfl) rfl ?_ ?_
               rotate_left
               ·go_simp
                rfl
               refine hK.out _ _ ?_
               clear hK K
               refine done_ (by kernel_rfl) ?_
               go_wp2_with fail
               go_meet
               exact ⟨HWS,⟨((below_drew HB.out).setCell (p := ⟨bo,q,none⟩) hbo _).setCell (p := ⟨bo,ps.length,none⟩) hbo _⟩⟩
             case rest =>
              as_aux_lemma =>
               obtain ⟨HW5,HB5⟩ := hcut
               clear hx hy hy2 hf1 hf2 c1 HWS
               have HE1 := am (show rs1 = (rs.set q rs[ps.length]).set ps.length rs[q] from by
                have e := HRS.out
                rw [if_neg (by rw [← HQ.out];exact HE.out)] at e
                rw [e,← HQ.out]
                unfold swapR
                rw [getD_row hrl,getD_row hql])
               have c3 := HW5.out.c3
               have hfd := HW5.out.fz 3
               have HNG := am (neg_eq HP.out HDT.out)
               go_wp2_with (first|(go_at_call 68;(with_reducible refine (field_Neg.calls p det _ _ HNG.out).mono ?_);rintro e w6 ⟨rfl,⟨nd,rfl⟩⟩))
               go_meet
               refine ⟨(vs.set q (.slice (some ⟨br,0,none⟩) n cr)).set ps.length (.slice (some ⟨bq,0,none⟩) n cq),⟨?_⟩,⟨(pw_below_drewN HB5.out nd).setCell (p := ⟨bw,3,none⟩) HW5.out.hbw _⟩⟩
               rw [HE1.out,HD1.out,if_neg (by rw [← HQ.out];exact HE.out)]
               exact (HW5.out.below (pw_below_drewN (Below.refl _ _) nd)).setDet _
          case rest =>
           as_aux_lemma =>
            obtain ⟨vs1,HW1,HB1⟩ := hcut
            have HR1 := am (show rs1.length = m ∧ RowsOk p n rs1 ∧ Res p d1 ∧ ∃ row,rs1[ps.length]? = some row ∧ row.getD i 0 ≠ 0 from by
             have hql : q < rs.length := by rw [HRL.out];exact hqm
             have hrl : ps.length < rs.length := by rw [HRL.out];exact hrm
             have hnz : (rs[q]).getD i 0 ≠ 0 := by
              have e2 := HQ.out
              have := fndP_nz (rs := rs) (c := i) (r := ps.length) (by rw [← e2];exact hql)
              simp only [← e2] at this
              exact this
             rw [HRS.out,HD1.out,← HQ.out]
             by_cases hh : q = ps.length
             ·rw [if_pos hh,if_pos hh]
              exact ⟨HRL.out,HRW.out,HDT.out,rs[q],by rw [← hh];exact List.getElem?_eq_getElem hql,hnz⟩
             ·rw [if_neg hh,if_neg hh]
              exact ⟨by rw [swapR_len];exact HRL.out,swapR_ok HRW.out hql hrl,Res.mod HP.out _,rs[q],swapR_at hql hrl,hnz⟩)
            clear z1 z2 HRS HD1
            obtain ⟨row,hrow,hxz⟩ := HR1.out.2.2.2
            have hr1 : ps.length < rs1.length := by rw [HR1.out.1];exact hrm
            have hge : row = rs1[ps.length] := by rw [List.getElem?_eq_getElem hr1] at hrow;exact (Option.some.inj hrow).symm
            have hrn : row.length = n := by rw [hge];exact (HR1.out.2.1.at hr1).1
            have hin : i < row.length := by omega
            obtain ⟨b,cb,hv,hcb,hbb⟩ := HW1.out.rform ps.length hr1 (by rw [← hge,hrn];exact hn0)
            rw [← hge,hrn] at hv hcb
            have hgd : row.getD i 0 = row[i] := by rw [List.getD_eq_getElem?_getD,List.getElem?_eq_getElem hin];rfl
            obtain ⟨x,hx⟩ : ∃ x,x = row[i] := ⟨_,rfl⟩
            have HX0 := am (show row[i]'hin = x from hx.symm)
            have HX := am (show Res p x ∧ x ≠ 0 from ⟨by rw [hx];subst hge;exact HR1.out.2.1.word hr1 hin,by rw [hx,← hgd];exact hxz⟩)
            have HST := am (show redStep p (rs,ps,det) i = (elimAll p i ps.length (scaleR p (invp p x) row) (rs1.set ps.length (scaleR p (invp p x) row)),ps ++ [(i : Int)],d1 * x % p) from by
             rw [HST.out,getD_row hr1,← hge,hgd,← hx])
            have hc4 := HW1.out.rcell hv hrow hin
            rw [← hx] at hc4
            have hc3 := HW1.out.ahead hv
            have hc1 := HW1.out.c1
            have hc2 := HW1.out.c3
            have hf3 := HW1.out.fz 3
            have HRN := am hrn
            have HROW := am hrow
            have HV := am hv
            have HRR := am (show ∀ y ∈ row,Res p y from by rw [hge];exact (HR1.out.2.1.at hr1).2)
            have p1 : ((0 : Int) ≤ (ps.length : Int)) = True := eq_true (by omega)
            have p2 : ((ps.length : Int) < (m : Int)) = True := eq_true (by omega)
            have p3 : ((0 : Int) ≤ (i : Int)) = True := eq_true (by omega)
            have p4 : ((i : Int) < (n : Int)) = True := eq_true (by omega)
            have p5 : decide (ps.length < m) = true := decide_eq_true hrm
            have p6 : decide (i < n) = true := decide_eq_true (by omega)
            clear hx hgd hge hrow hxz hr1 hrn hv
            obtain ⟨k1,hk1⟩ := (mul_ev HP.out HR1.out.2.2.1 HX.out.1).rounds
            have HK1 := am hk1
            obtain ⟨d2,hd2⟩ : ∃ d,d = d1 * x % p := ⟨_,rfl⟩
            rw [← hd2] at HK1 HST
            clear hk1 hd2
            go_upto_region 21 with fail
            go_cut [] (fun wd => Aside0 (Wk wd w.heap.size bw p (.slice (some ⟨bo,0,none⟩) m co) vs1 rs1 (.slice Ap ps.length cp) ps d2) ∧ Aside0 (Below w.heap.size w wd))
            case first =>
             as_aux_lemma =>
              refine start_ (n := 20) (S := (fun w' => w'.cell? ⟨bw,1,none⟩ = some (.slice (some ⟨bo,0,none⟩) m co) ∧ w'.cell? ⟨bw,3,none⟩ = some (.int .u64 d1) ∧ w'.cell? ⟨bo,ps.length,none⟩ = some (.slice (some ⟨b,0,none⟩) n cb) ∧ w'.cell? ⟨b,i,none⟩ = some (.int .u64 x))) (ds := [19]) (bz 20 0) (by kernel_rfl) rfl rfl ⟨hc1,hc2,hc3,hc4⟩ (fun hHeld => ?_)
              refine pu 0 122 (bz 20 1) ?_
              refine pu 1 123 (bz 20 3) ?_
              refine pu 2 124 (bz 20 7) ?_
              refine pu 3 125 (bz 20 15) ?_
              refine pu 4 126 (bz 20 31) ?_
              refine tu 5 127 (bz 20 63) hHeld ?_
              refine pu 6 128 (bz 20 127) ?_
              refine pu 7 129 (bz 20 255) ?_
              refine pu 8 130 (bz 20 511) ?_
              refine tu 9 131 (bz 20 1023) hHeld ?_
              refine pu 10 132 (bz 20 2047) ?_
              refine pu 11 133 (bz 20 4095) ?_
              refine tu 12 134 (bz 20 8191) hHeld ?_
              refine pu 13 135 (bz 20 16383) ?_
              refine pu 14 136 (bz 20 32767) ?_
              refine tu 15 137 (bz 20 65535) hHeld ?_
              refine one_ (i := 16) (N := some 138) (bz 20 131071) rfl rfl (by kernel_rfl) (by decide) (fun K hK => ?_)
              refine goes_ Try.func27 (by kernel_rfl) rfl #[.int .u64 p,.int .u64 d1,.int .u64 x] (by rfl) rfl rfl (by (try simp only [List.map_toArray,List.map_cons,List.map_nil]);first|done|rfl) ?_
              with_reducible refine (field_Mul.calls k1 p d1 x d2 _ HK1.out).mono ?_
              rintro e w' ⟨rfl,⟨nd,rfl⟩⟩
              refine ⟨_,rfl,?_⟩
              refine hK.out _ _ ⟨hc1,hc2,hc3,hc4⟩ (fun hHeld => ?_)
              clear hK K
              refine nm 138 ?_
              refine pu 17 139 (bz 20 262143) ?_
              refine pu 18 140 (bz 20 524287) ?_
              refine last_ (i := 19) (N := none) (bz 20 1048575) rfl rfl (by kernel_rfl) (by decide) (fun K hK => ?_)
              refine skip_ (w1 := ?_) (by rfl) rfl ?_ ?_
              rotate_left
              ·go_simp
               rfl
              refine hK.out _ _ ?_
              clear hK K
              refine done_ (by kernel_rfl) ?_
              go_wp2_with fail
              go_meet
              exact ⟨⟨(HW1.out.below (pw_below_drewN (Below.refl _ _) (1 + nd))).setDet _⟩,⟨(pw_below_drewN HB1.out (1 + nd)).setCell (p := ⟨bw,3,none⟩) HW1.out.hbw _⟩⟩
            case rest =>
             as_aux_lemma =>
              obtain ⟨HW2,HB2⟩ := hcut
              clear hc1 hc2 hc3 hc4 hf3
              have hc4 := HW2.out.rcell HV.out HROW.out (show i < row.length by rw [HRN.out];omega)
              have HXE := am (show row[i]'(by rw [HRN.out];omega) = x from HX0.out)
              rw [HXE.out] at hc4
              have hc3 := HW2.out.ahead HV.out
              have hc1 := HW2.out.c1
              obtain ⟨k2,hk2⟩ := (inv_ev HP.out HX.out.1 HX.out.2).rounds
              have HK2 := am hk2
              obtain ⟨iv,hiv⟩ : ∃ y,y = invp p x := ⟨_,rfl⟩
              have HIV := am (show Res p iv from by rw [hiv];exact inv_res HP.out x)
              rw [← hiv] at HK2 HST
              obtain ⟨prow,hpr⟩ : ∃ y,y = scaleR p iv row := ⟨_,rfl⟩
              rw [← hpr] at HST
              have HPL := am (show prow.length = row.length from by rw [hpr];exact scaleR_len _ _ _)
              have HPA := am (show ∀ j (h1 : j < row.length) (h2 : j < prow.length),prow[j] = iv * row[j] % p from by intro j h1 h2;subst hpr;simp [scaleR])
              have HPR := am (show ∀ y ∈ prow,Res p y from by rw [hpr];exact (scaleR_ok HP.out rfl).2)
              have HB2 : Aside0 (Below w.heap.size w wc) := HB2
              have HW3 := am (show Wk wc w.heap.size bw p (.slice (some ⟨bo,0,none⟩) m co) vs1 (rs1.set ps.length (part prow row 0)) (.slice Ap ps.length cp) ps d2 from by
               rw [part_zero,set_at HROW.out];exact HW2.out)
              clear hk2 hiv hpr HW2
              go_wp2_with (first|(go_at_call 86;(with_reducible refine (field_Inverse.calls k2 p x iv 0 _ HK2.out).mono ?_);rintro e w7 ⟨rfl,⟨nd,rfl⟩⟩))
              go_loopg [164] n (fun kq v164 w' => ∃ (j : Nat),v164 = .int .i64 (j : Int) ∧ Aside0 (kq + j = n) ∧ Aside0 (Wk w' w.heap.size bw p (.slice (some ⟨bo,0,none⟩) m co) vs1 (rs1.set ps.length (part prow row j)) (.slice Ap ps.length cp) ps d2) ∧ Aside0 (Below w.heap.size w w'))
              case atStart => exact ⟨0,rfl,⟨rfl⟩,⟨HW3.out.below (pw_below_drewN (Below.refl _ _) nd)⟩,⟨pw_below_drewN HB2.out nd⟩⟩
              case round =>
               as_aux_lemma =>
                clear HW3 HB2 hc1 hc3 hc4
                obtain ⟨j,rfl,HKj,HW,HB⟩ := hrel
                have HPP := am (show (rs1.set ps.length (part prow row j))[ps.length]? = some (part prow row j) from List.getElem?_set_self (by rw [HR1.out.1];exact hrm))
                by_cases hjn : j < n
                ·
                 have q1 : ((j : Int) < (n : Int)) = True := eq_true (by omega)
                 have q2 : decide (j < n) = true := decide_eq_true hjn
                 have q3 : ((0 : Int) ≤ (j : Int)) = True := eq_true (by omega)
                 have hjr : j < row.length := by rw [HRN.out];exact hjn
                 have hpl : (part prow row j).length = row.length := part_len HPL.out (by omega)
                 have hc4 := HW.out.rcell HV.out HPP.out (show j < (part prow row j).length by omega)
                 have hpj : (part prow row j)[j]'(by omega) = row[j] := by
                  have := part_at HPL.out hjr
                  rw [List.getElem?_eq_getElem (by omega)] at this
                  exact Option.some.inj this
                 rw [hpj] at hc4
                 have HY := am (show Res p row[j] from HRR.out _ (List.getElem_mem _))
                 have hpa := HPA.out j hjr (by rw [HPL.out];exact hjr)
                 have HNX := am (show (part prow row j).set j (prow[j]'(by rw [HPL.out];exact hjr)) = part prow row (j + 1) from part_set HPL.out hjr)
                 obtain ⟨y,hy⟩ : ∃ y,y = row[j] := ⟨_,rfl⟩
                 rw [hpa] at HNX
                 rw [← hy] at hc4 HY HNX
                 obtain ⟨k3,hk3⟩ := (mul_ev HP.out HIV.out HY.out).rounds
                 have HK3 := am hk3
                 obtain ⟨z,hz⟩ : ∃ z,z = iv * y % p := ⟨_,rfl⟩
                 rw [← hz] at HK3 HNX
                 have hc3 := HW.out.ahead HV.out
                 have hc1 := HW.out.c1
                 have hf4 := HW.out.rfz HV.out HPP.out j
                 have HC4 := am hc4
                 clear hpa hpj hy hk3 hz hjr hpl
                 go_wp2
                 refine start_ (n := 14) (S := (fun w' => w'.cell? ⟨bw,1,none⟩ = some (.slice (some ⟨bo,0,none⟩) m co) ∧ w'.cell? ⟨bo,ps.length,none⟩ = some (.slice (some ⟨b,0,none⟩) n cb))) (ds := [13]) (bz 14 0) (by kernel_rfl) rfl rfl ⟨hc1,hc3⟩ (fun hHeld => ?_)
                 refine pu 0 169 (bz 14 1) ?_
                 refine pu 1 170 (bz 14 3) ?_
                 refine pu 2 171 (bz 14 7) ?_
                 refine tu 3 172 (bz 14 15) hHeld ?_
                 refine pu 4 173 (bz 14 31) ?_
                 refine pu 5 174 (bz 14 63) ?_
                 refine tu 6 175 (bz 14 127) hHeld ?_
                 refine pu 7 176 (bz 14 255) ?_
                 refine pu 8 177 (bz 14 511) ?_
                 refine pu 9 178 (bz 14 1023) ?_
                 refine pu 10 179 (bz 14 2047) ?_
                 refine one_ (i := 11) (N := some 180) (bz 14 4095) rfl rfl (by kernel_rfl) (by decide) (fun K hK => ?_)
                 refine goes_ Try.func27 (by kernel_rfl) rfl #[.int .u64 p,.int .u64 iv,.int .u64 y] (by rfl) rfl rfl (by (try simp only [List.map_toArray,List.map_cons,List.map_nil]);first|done|rfl) ?_
                 with_reducible refine (field_Mul.calls k3 p iv y z _ HK3.out).mono ?_
                 rintro e w' ⟨rfl,⟨nd,rfl⟩⟩
                 refine ⟨_,rfl,?_⟩
                 refine hK.out _ _ ⟨hc1,hc3⟩ (fun hHeld => ?_)
                 clear hK K
                 refine nm 180 ?_
                 refine pu 12 181 (bz 14 8191) ?_
                 refine last_ (i := 13) (N := none) (bz 14 16383) rfl rfl (by kernel_rfl) (by decide) (fun K hK => ?_)
                 refine skip_ (w1 := ?_) (by rfl) rfl ?_ ?_
                 rotate_left
                 ·go_simp
                  rfl
                 refine hK.out _ _ ?_
                 clear hK K
                 refine done_ (by kernel_rfl) ?_
                 have HW5 := am (show Wk ((wr.drewN (1 + nd)).setCell ⟨b,j,none⟩ (.int .u64 z)) w.heap.size bw p (.slice (some ⟨bo,0,none⟩) m co) vs1 (rs1.set ps.length (part prow row (j + 1))) (.slice Ap ps.length cp) ps d2 from by
                  have := (HW.out.below (pw_below_drewN (Below.refl _ _) (1 + nd))).setRow HV.out HPP.out j z
                  rw [List.set_set,HNX.out] at this
                  exact this)
                 have HB5 := am (show Below w.heap.size w ((wr.drewN (1 + nd)).setCell ⟨b,j,none⟩ (.int .u64 z)) from (pw_below_drewN HB.out (1 + nd)).setCell (p := ⟨b,j,none⟩) hbb _)
                 go_wp2
                 go_roundg (n - (j + 1))
                 case measure => have := HKj.out;omega
                 case rel => exact ⟨j + 1,by go_num,⟨by omega⟩,HW5,HB5⟩
                ·have q1 : ((j : Int) < (n : Int)) = False := eq_false (by omega)
                 have q2 : decide (j < n) = false := decide_eq_false hjn
                 have HF := am (show rs1.set ps.length (part prow row j) = rs1.set ps.length prow from by
                  have e : j = row.length := by rw [HRN.out];have := HKj.out;omega
                  rw [e,part_all HPL.out])
                 rw [HF.out] at HW
                 clear HPP HF HKj
                 have hc1 := HW.out.c1
                 obtain ⟨rs2,hrs2⟩ : ∃ y,y = rs1.set ps.length prow := ⟨_,rfl⟩
                 have H2P := am (show rs2[ps.length]? = some prow from by rw [hrs2];exact List.getElem?_set_self (by rw [HR1.out.1];exact hrm))
                 have H2L := am (show rs2.length = m from by rw [hrs2,List.length_set];exact HR1.out.1)
                 have H2R := am (show RowsOk p n rs2 from by rw [hrs2];exact HR1.out.2.1.set ⟨by rw [HPL.out];exact HRN.out,HPR.out⟩)
                 obtain ⟨E,hE⟩ : ∃ y,y = elimAll p i ps.length prow rs2 := ⟨_,rfl⟩
                 have HEL := am (show E.length = rs2.length from by rw [hE];exact elimAll_len _ _ _ _ _)
                 have HEA := am (show ∀ (a : Nat) (h : a < rs2.length),E[a]? = some (elimRow p i ps.length prow a rs2[a]) from by intro a h;rw [hE];exact elimAll_get _ _ _ _ _ h)
                 rw [← hrs2] at HW HST
                 rw [← hE] at HST
                 have HPN := am (show prow.length = n from by rw [HPL.out];exact HRN.out)
                 have HW9 := am (show Wk wr w.heap.size bw p (.slice (some ⟨bo,0,none⟩) m co) vs1 (part E rs2 0) (.slice Ap ps.length cp) ps d2 from by rw [part_zero];exact HW.out)
                 clear hrs2 hE HW HPA HPL HRN HROW HRR HX HX0 HXE HR1 HIV
                 go_wp2
                 go_loopg [188] m (fun kq v188 w' => ∃ (a : Nat),v188 = .int .i64 (a : Int) ∧ Aside0 (kq + a = m) ∧ Aside0 (Wk w' w.heap.size bw p (.slice (some ⟨bo,0,none⟩) m co) vs1 (part E rs2 a) (.slice Ap ps.length cp) ps d2) ∧ Aside0 (Below w.heap.size w w'))
                 case atStart => exact ⟨0,rfl,⟨rfl⟩,HW9,HB⟩
                 case round =>
                  as_aux_lemma =>
                   clear HW9 HB hc1 q1 q2
                   obtain ⟨a,rfl,HKa,HW,HB⟩ := hrel
                   by_cases ham : a < m
                   ·
                    have q1 : ((a : Int) < (m : Int)) = True := eq_true (by omega)
                    have q2 : decide (a < m) = true := decide_eq_true ham
                    have q3 : ((0 : Int) ≤ (a : Int)) = True := eq_true (by omega)
                    have ha2 : a < rs2.length := by rw [H2L.out];exact ham
                    have HPT := am (show (part E rs2 a)[a]? = some rs2[a] from part_at HEL.out ha2)
                    have HPQ := am (show (part E rs2 a)[ps.length]? = some prow from by
                     rw [part_get HEL.out (by omega)]
                     have hr2 : ps.length < rs2.length := by rw [H2L.out];exact hrm
                     have e2 := H2P.out
                     by_cases e : ps.length < a
                     ·rw [if_pos e,HEA.out ps.length hr2]
                      rw [List.getElem?_eq_getElem hr2] at e2
                      unfold elimRow
                      rw [if_pos (Or.inl rfl)];exact e2
                     ·rw [if_neg e];exact e2)
                    have hal : a < (part E rs2 a).length := (List.getElem?_eq_some_iff.1 HPT.out).1
                    have hge : rs2[a] = (part E rs2 a)[a] := by have := HPT.out;rw [List.getElem?_eq_getElem hal] at this;exact (Option.some.inj this).symm
                    have hrn := (H2R.out.at ha2).1
                    obtain ⟨ba,ca,hva,_,hba⟩ := HW.out.rform a hal (by rw [← hge,hrn];exact hn0)
                    rw [← hge,hrn] at hva
                    obtain ⟨rowa,hra⟩ : ∃ y,y = rs2[a] := ⟨_,rfl⟩
                    have HEa := am (HEA.out a ha2)
                    have HRA := am (show ∀ y ∈ rowa,Res p y from by rw [hra];exact (H2R.out.at ha2).2)
                    have HOA := am (show rs2[a]? = some rowa from by rw [hra];exact List.getElem?_eq_getElem ha2)
                    rw [← hra] at hrn HPT HEa
                    have hia : i < rowa.length := by omega
                    have hc4 := HW.out.rcell hva HPT.out hia
                    have hgd : rowa.getD i 0 = rowa[i] := by rw [List.getD_eq_getElem?_getD,List.getElem?_eq_getElem hia];rfl
                    have HY := am (show Res p rowa[i] from HRA.out _ (List.getElem_mem _))
                    obtain ⟨y,hy⟩ : ∃ y,y = rowa[i] := ⟨_,rfl⟩
                    have HGD := am (show rowa.getD i 0 = y from hgd.trans hy.symm)
                    rw [← hy] at hc4 HY
                    have hc3 := HW.out.ahead hva
                    have hc1 := HW.out.c1
                    have HVA := am hva
                    have HRN := am hrn
                    clear hge hra hgd hy hva hrn
                    by_cases har : a = ps.length
                    ·have z1 : ((a : Int) == (ps.length : Int)) = true := by rw [har];simp
                     have HSM := am (show part E rs2 (a + 1) = part E rs2 a from part_same HEL.out ha2 (by
                      rw [HEa.out,HOA.out];unfold elimRow;rw [if_pos (Or.inl har)]))
                     clear har
                     go_wp2
                     go_roundg (m - (a + 1))
                     case measure => have := HKa.out;omega
                     case rel => exact ⟨a + 1,by go_num,⟨by omega⟩,⟨by rw [HSM.out];exact HW.out⟩,HB⟩
                    ·have z1 : ((a : Int) == (ps.length : Int)) = false := by
                      have : ¬ (a : Int) = (ps.length : Int) := by omega
                      simpa using this
                     by_cases hy0 : y = 0
                     ·have z2 : (y == 0) = true := by simpa using hy0
                      have HSM := am (show part E rs2 (a + 1) = part E rs2 a from part_same HEL.out ha2 (by
                       rw [HEa.out,HOA.out];unfold elimRow;rw [if_pos (Or.inr (by rw [HGD.out];exact hy0))]))
                      clear hy0
                      go_wp2
                      go_roundg (m - (a + 1))
                      case measure => have := HKa.out;omega
                      case rel => exact ⟨a + 1,by go_num,⟨by omega⟩,⟨by rw [HSM.out];exact HW.out⟩,HB⟩
                     ·have z2 : (y == 0) = false := by simpa using hy0
                      obtain ⟨er,her⟩ : ∃ z,z = elimR p y prow rowa := ⟨_,rfl⟩
                      have HER := am (show E[a]? = some er from by
                       rw [HEa.out,her];unfold elimRow;rw [if_neg (by intro h;rcases h with h|h;exact har h;exact hy0 (by rw [← HGD.out];exact h)),HGD.out])
                      have HEL2 := am (show er.length = rowa.length from by rw [her];exact elimR_len (by rw [HPN.out];exact HRN.out.symm))
                      have HEV := am (show ∀ j (h1 : j < rowa.length) (h2 : j < prow.length),er[j]? = some ((rowa[j] - y * prow[j] % p) % p) from by intro j h1 h2;rw [her];exact elimR_at h1 h2)
                      have HNE := am har
                      have HNP := am (show (part E rs2 a).set a er = part E rs2 (a + 1) from by
                       have hae : a < E.length := by rw [HEL.out];exact ha2
                       have e3 : E[a] = er := by have := HER.out;rw [List.getElem?_eq_getElem hae] at this;exact Option.some.inj this
                       rw [← e3];exact part_set HEL.out ha2)
                      have HAL := am hal
                      have HW6 := am (show Wk wr w.heap.size bw p (.slice (some ⟨bo,0,none⟩) m co) vs1 ((part E rs2 a).set a (part er rowa 0)) (.slice Ap ps.length cp) ps d2 from by
                       rw [part_zero,set_at HPT.out];exact HW.out)
                      have hcb := HW.out.ahead HV.out
                      clear her hy0 har HW HEa HEA HOA HGD H2P
                      go_wp2
                      go_loopg [215] n (fun kq v215 w' => ∃ (j : Nat),v215 = .int .i64 (j : Int) ∧ Aside0 (kq + j = n) ∧ Aside0 (Wk w' w.heap.size bw p (.slice (some ⟨bo,0,none⟩) m co) vs1 ((part E rs2 a).set a (part er rowa j)) (.slice Ap ps.length cp) ps d2) ∧ Aside0 (Below w.heap.size w w'))
                      case atStart => exact ⟨0,rfl,⟨rfl⟩,HW6,HB⟩
                      case round =>
                       as_aux_lemma =>
                        clear HW6 HB hc1 hc3 hc4 hcb q1 q2 z1 z2
                        obtain ⟨j,rfl,HKj,HW,HB⟩ := hrel
                        have HPP := am (show ((part E rs2 a).set a (part er rowa j))[a]? = some (part er rowa j) from List.getElem?_set_self HAL.out)
                        by_cases hjn : j < n
                        ·have q1 : ((j : Int) < (n : Int)) = True := eq_true (by omega)
                         have q2 : decide (j < n) = true := decide_eq_true hjn
                         have q4 : ((0 : Int) ≤ (j : Int)) = True := eq_true (by omega)
                         have hjr : j < rowa.length := by rw [HRN.out];exact hjn
                         have hjp : j < prow.length := by rw [HPN.out];exact hjn
                         have hpl : (part er rowa j).length = rowa.length := part_len HEL2.out (by omega)
                         have hd4 := HW.out.rcell HVA.out HPP.out (show j < (part er rowa j).length by omega)
                         have hpj : (part er rowa j)[j]'(by omega) = rowa[j] := by
                          have := part_at HEL2.out hjr
                          rw [List.getElem?_eq_getElem (by omega)] at this
                          exact Option.some.inj this
                         rw [hpj] at hd4
                         have hd5 := HW.out.rcell HV.out (show ((part E rs2 a).set a (part er rowa j))[ps.length]? = some prow from by rw [List.getElem?_set_ne HNE.out];exact HPQ.out) hjp
                         have HY1 := am (show Res p rowa[j] from HRA.out _ (List.getElem_mem _))
                         have HY2 := am (show Res p prow[j] from HPR.out _ (List.getElem_mem _))
                         have hev := HEV.out j hjr hjp
                         have HNX := am (show (part er rowa j).set j (er[j]'(by rw [HEL2.out];exact hjr)) = part er rowa (j + 1) from part_set HEL2.out hjr)
                         have hee : er[j]'(by rw [HEL2.out];exact hjr) = (rowa[j] - y * prow[j] % p) % p := by
                          rw [List.getElem?_eq_getElem (by rw [HEL2.out];exact hjr)] at hev
                          exact Option.some.inj hev
                         rw [hee] at HNX
                         obtain ⟨u,hu⟩ : ∃ u,u = rowa[j] := ⟨_,rfl⟩
                         obtain ⟨v,hvv⟩ : ∃ v,v = prow[j] := ⟨_,rfl⟩
                         rw [← hu] at hd4 HY1 HNX
                         rw [← hvv] at hd5 HY2 HNX
                         obtain ⟨k3,hk3⟩ := (mul_ev HP.out HY.out HY2.out).rounds
                         obtain ⟨k4,hk4⟩ := (sub_ev HP.out HY1.out (Res.mod HP.out (y * v))).rounds
                         obtain ⟨t1,ht1⟩ : ∃ z,z = y * v % p := ⟨_,rfl⟩
                         rw [← ht1] at hk3 hk4 HNX
                         obtain ⟨t2,ht2⟩ : ∃ z,z = (u - t1) % p := ⟨_,rfl⟩
                         rw [← ht2] at hk4 HNX
                         have HK3 := am hk3
                         have HK4 := am hk4
                         have hf4 := HW.out.rfz HVA.out HPP.out j
                         clear hpj hee hev hu hvv hk3 hk4 ht1 ht2 hjr hjp hpl
                         go_wp2
                         refine start_ (n := 14) (S := (fun w' => w'.cell? ⟨ba,j,none⟩ = some (.int .u64 u))) (ds := [13]) (bz 14 0) (by kernel_rfl) rfl rfl hd4 (fun hHeld => ?_)
                         refine pu 0 220 (bz 14 1) ?_
                         refine pu 1 221 (bz 14 3) ?_
                         refine pu 2 222 (bz 14 7) ?_
                         refine pu 3 223 (bz 14 15) ?_
                         refine pu 4 224 (bz 14 31) ?_
                         refine pu 5 225 (bz 14 63) ?_
                         refine tu 6 226 (bz 14 127) hHeld ?_
                         refine pu 7 227 (bz 14 255) ?_
                         refine pu 8 228 (bz 14 511) ?_
                         refine pu 9 229 (bz 14 1023) ?_
                         refine one_ (i := 10) (N := some 230) (bz 14 2047) rfl rfl (by kernel_rfl) (by decide) (fun K hK => ?_)
                         refine goes_ Try.func27 (by kernel_rfl) rfl #[.int .u64 p,.int .u64 y,.int .u64 v] (by rfl) rfl rfl (by (try simp only [List.map_toArray,List.map_cons,List.map_nil]);first|done|rfl) ?_
                         with_reducible refine (field_Mul.calls k3 p y v t1 _ HK3.out).mono ?_
                         rintro e w' ⟨rfl,⟨nd,rfl⟩⟩
                         refine ⟨_,rfl,?_⟩
                         refine hK.out _ _ hd4 (fun hHeld => ?_)
                         clear hK K
                         refine nm 230 ?_
                         refine one_ (i := 11) (N := some 231) (bz 14 4095) rfl rfl (by kernel_rfl) (by decide) (fun K hK => ?_)
                         refine goes_ Try.func44 (by kernel_rfl) rfl #[.int .u64 p,.int .u64 u,.int .u64 t1] (by rfl) rfl rfl (by (try simp only [List.map_toArray,List.map_cons,List.map_nil]);first|done|rfl) ?_
                         with_reducible refine (field_Sub.calls k4 p u t1 t2 _ HK4.out).mono ?_
                         rintro e w' ⟨rfl,⟨nd2,rfl⟩⟩
                         refine ⟨_,rfl,?_⟩
                         refine hK.out _ _ hd4 (fun hHeld => ?_)
                         clear hK K
                         refine nm 231 ?_
                         refine pu 12 232 (bz 14 8191) ?_
                         refine last_ (i := 13) (N := none) (bz 14 16383) rfl rfl (by kernel_rfl) (by decide) (fun K hK => ?_)
                         refine skip_ (w1 := ?_) (by rfl) rfl ?_ ?_
                         rotate_left
                         ·go_simp
                          rfl
                         refine hK.out _ _ ?_
                         clear hK K
                         refine done_ (by kernel_rfl) ?_
                         have HW5 := am (show Wk ((wr.drewN (1 + nd + nd2)).setCell ⟨ba,j,none⟩ (.int .u64 t2)) w.heap.size bw p (.slice (some ⟨bo,0,none⟩) m co) vs1 ((part E rs2 a).set a (part er rowa (j + 1))) (.slice Ap ps.length cp) ps d2 from by
                          have := (HW.out.below (pw_below_drewN (Below.refl _ _) (1 + nd + nd2))).setRow HVA.out HPP.out j t2
                          rw [List.set_set,HNX.out] at this
                          exact this)
                         have HB5 := am (show Below w.heap.size w ((wr.drewN (1 + nd + nd2)).setCell ⟨ba,j,none⟩ (.int .u64 t2)) from (pw_below_drewN HB.out (1 + nd + nd2)).setCell (p := ⟨ba,j,none⟩) hba _)
                         go_wp2
                         go_roundg (n - (j + 1))
                         case measure => have := HKj.out;omega
                         case rel => exact ⟨j + 1,by go_num,⟨by omega⟩,HW5,HB5⟩
                        ·have q1 : ((j : Int) < (n : Int)) = False := eq_false (by omega)
                         have q2 : decide (j < n) = false := decide_eq_false hjn
                         have HF := am (show (part E rs2 a).set a (part er rowa j) = part E rs2 (a + 1) from by
                          have e : j = rowa.length := by rw [HRN.out];have := HKj.out;omega
                          rw [e,part_all HEL2.out,HNP.out])
                         rw [HF.out] at HW
                         clear HPP HF HKj
                         go_wp2
                         go_roundg (m - (a + 1))
                         case measure => have := HKa.out;omega
                         case rel => exact ⟨a + 1,by go_num,⟨by omega⟩,HW,HB⟩
                   ·have q1 : ((a : Int) < (m : Int)) = False := eq_false (by omega)
                    have q2 : decide (a < m) = false := decide_eq_false ham
                    have HF := am (show part E rs2 a = E from by
                     have e : a = rs2.length := by rw [H2L.out];have := HKa.out;omega
                     rw [e,part_all HEL.out])
                    rw [HF.out] at HW
                    clear HF HKa
                    have hc2 := HW.out.c2
                    have HPI := am (show Kd.R (Kd.int .i64) 3 wr w.heap.size (fun _ => True) (.slice Ap ps.length cp) ps from Kd.R_of_own HW.out.piv (fun _ _ => trivial))
                    have hpl : ps.length ≤ 1000 := by omega
                    go_wp2_with (first|((with_reducible refine gate_builtin (b := .append) (xs := #[.tmp 239,.tmp 241]) rfl ?_);at_builtin;refine Kd.R_append (Kd.int .i64) (w0 := w) w.heap.size rfl (.tmp 239) (.tmp 241) 31 3 (.int .i64 0) 8 rfl Try.underlying31 info3 rfl (by decide) (by omega) (.slice Ap ps.length cp) ps (i : Int) [.int .i64 (i : Int)] (fun _ => True) (fun _ => False) rfl rfl ?aP (fun _ hk => hk.elim) ?aF ?aO ?aB ?aS ?aL ?_;(case aP => exact rfl);(case aB => exact HB.out);(case aF => exact (fun _ _ => trivial));(case aO => exact HPI.out);(case aS => exact (below_size HB.out));(case aL => omega);intro v8 w8 ho hb hg hat;have hpv := Kd.own_of_R ho;obtain ⟨A8,c8,ev8⟩ := Kd.R_slice ho;subst ev8;have HW8 := am (show Wk (w8.setCell ⟨bw,2,none⟩ (.slice A8 (ps.length + 1) c8)) w.heap.size bw p (.slice (some ⟨bo,0,none⟩) m co) vs1 E (.slice A8 (ps.length + 1) c8) (ps ++ [(i : Int)]) d2 from by have h9 := HW.out.push hg hpv;rw [List.length_append] at h9;exact h9);have HB8 := am hb;have hb8 : w8.cell? ⟨bw,2,none⟩ = some (.slice Ap ps.length cp) := hg.cell hc2 (by intro e;exact own_ne0 HW.out.piv HW.out.box (by decide) bw e.symm rfl);have hfr8 : w8.frozen? ⟨bw,2,none⟩ = false := (World.frozen?_of_block (hg.block bw (blk_lt HW.out.box) (by intro e;exact own_ne0 HW.out.piv HW.out.box (by decide) bw e.symm rfl))).trans (HW.out.fz 2);have HBW := am HW.out.hbw;clear HPI HW ho hb hg hat hpv hc2))
                    go_roundg (k - (i + 1))
                    case measure => have := HK.out;omega
                    case rel => exact ⟨i + 1,vs1,.slice A8 (ps.length + 1) c8,by go_num,⟨by omega⟩,⟨by rw [HS.out,HST.out,← HM.out];exact HW8.out⟩,⟨HB8.out.setCell (p := ⟨bw,2,none⟩) HBW.out _⟩⟩
      ·have g0 : decide (i < k) = false := decide_eq_false hik
       have g1 : ((i : Int) < (k : Int)) = False := eq_false (by omega)
       have HE := am (show i = k from by have := HK.out;omega)
       clear HK
       go_wp2
       first|go_ret|((try simp only [Exit.inBlock,Exit.then]);refine bodyPost_ret (results_tmp rfl _ _ _) rfl ?_)
       rw [HE.out] at HW
       exact ⟨⟨bw,_,vs,pv,rfl,HW.out⟩,HB.out⟩
end Go.Proofs.Ytmdoaijkaaaglaa.Hw
end
