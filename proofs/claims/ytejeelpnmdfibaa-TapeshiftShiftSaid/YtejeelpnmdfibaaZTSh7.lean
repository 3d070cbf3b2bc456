/- Part 7 of the proof's texts, joined in build order. -/
import Derived.Test.YtejeelpnmdfibaaZTSh6
import Derived.Test.YtejeelpnmdfibaaZTSh4
import Derived.Test.YtejeelpnmdfibaaZTSh3
import Derived.Test.YtejeelpnmdfibaaZTSh1
import Derived.Test.YtejeelpnmdfibaaZTSh5
import Derived.Test.YtejeelpnmdfibaaZTSh2
section
namespace Go.Proofs.Ytejeelpnmdfibaa.Hw
open Go.RowKit Go.Proofs.Ytejeelpnmdfibaa.Pr Go.Proofs.YtejeelpnmdfibaaW.PrintWords Go.Proofs.YtejeelpnmdfibaaW.PrintLast Go.Proofs.YtejeelpnmdfibaaW.PrintMore Go.Proofs.Ytejeelpnmdfibaa.E
set_option linter.unusedVariables false
set_option linter.unusedSimpArgs false
section
variable {P : Program} {ops : Array Oper} {Q : Exit → Act → World → Prop}
theorem goesC_ {oi : Oper} {N : Option Tmp} {a : Act} {w : World} {K : Act → World → Prop} {f : FuncId} {fn : Func} {cal : Operand} {as_ : Array Operand} {ts : Array TypeId} (hf : P.funcs[f]? = some fn) (hname : (fn.name == "runtime.NumGoroutine") = false) (hb : fn.body.isSome = true) (lb args : Array Value)
  (hw : Region.wanted oi (yielded ops a.tmps) = true) (hN : oi.dst = N) (hop : oi.op = .call { callee := .value cal,args := as_,argTypes := ts }) (hc : a.eval cal = .func (.func f) #[] lb) (hargs : as_.map a.eval = args)
  (h : Calls P f (args ++ lb) w fun e w' => ∃ v,e = .returned v ∧ K (a.put N v) w') : if Region.wanted oi (yielded ops a.tmps) = true then Oper.wp P oi a w K Q else K (a.put N undef) w := by
 refine call_ f (args ++ lb) hw hN ?_ h
 have he := enters_ hf hname hb (args ++ lb) w
 unfold execOp
 simp [hop,resolve,Deferred.ofValue,invoke,hc,hargs,he]
end
theorem R_far {e base g : Nat} {w w1 : World} {v : Value} {xs : List Int} (h : Kd.R (Kd.int .u64) e w base (fun k => k < g ∨ g < k) v xs) (hm : ∀ b,b ≠ g → w1.heap[b]? = w.heap[b]?) : Kd.R (Kd.int .u64) e w1 base (fun k => k < g ∨ g < k) v xs :=
 Kd.R_move h fun k hk => hm k (by omega)
theorem R_fresh {e base b0 g : Nat} {ok : Nat → Prop} {w : World} {v : Value} {xs : List Int} (h : Kd.R (Kd.int .u64) e w base ok v xs) (hb : b0 ≤ base) (hg : g < base) : Kd.R (Kd.int .u64) e w b0 (fun k => k < g ∨ g < k) v xs :=
 Kd.R_lower (Kd.R_mono (Kd.R_bound h) fun k hk => Or.inr (by have := hk.2.1;omega)) hb
theorem R_any {e base : Nat} {ok : Nat → Prop} {w : World} {v : Value} {xs : List Int} (h : Kd.R (Kd.int .u64) e w base ok v xs) : Kd.R (Kd.int .u64) e w 0 (fun _ => True) v xs :=
 Kd.R_lower (Kd.R_mono h fun _ _ => trivial) (Nat.zero_le _)
theorem R_before {e base g : Nat} {ok : Nat → Prop} {w : World} {v : Value} {xs : List Int} (h : Kd.R (Kd.int .u64) e w base ok v xs) (hg : w.heap.size ≤ g) : Kd.R (Kd.int .u64) e w base (fun k => k < g ∨ g < k) v xs :=
 Kd.R_mono (Kd.R_bound h) fun k hk => Or.inl (by have := hk.2.2.1;omega)
theorem R_highs {e base b0 : Nat} {w : World} {v : Value} {xs : List Int} (h : Kd.R (Kd.int .u64) e w base (fun _ => True) v xs) (hb : b0 ≤ base) : Kd.R (Kd.int .u64) e w b0 (fun k => base ≤ k) v xs :=
 Kd.R_lower (Kd.R_mono (Kd.R_bound h) fun k hk => hk.2.1) hb
theorem R_lows {e base g : Nat} {w : World} {v : Value} {xs : List Int} (h : Kd.R (Kd.int .u64) e w base (fun k => k < g ∨ g < k) v xs) : Kd.R (Kd.int .u64) e w base (fun k => k ≠ g ∧ k < w.heap.size) v xs :=
 Kd.R_mono (Kd.R_bound h) fun k hk => ⟨by have := hk.1;omega,hk.2.2.1⟩
theorem low_far {e base g B : Nat} {w w1 : World} {v : Value} {xs : List Int} (h : Kd.R (Kd.int .u64) e w base (fun k => k ≠ g ∧ k < B) v xs) (hm : ∀ b,b ≠ g → w1.heap[b]? = w.heap[b]?) : Kd.R (Kd.int .u64) e w1 base (fun k => k ≠ g ∧ k < B) v xs :=
 Kd.R_move h fun k hk => hm k hk.1
theorem high_far {e base g B : Nat} {w w1 : World} {v : Value} {xs : List Int} (h : Kd.R (Kd.int .u64) e w base (fun k => B ≤ k) v xs) (hg : g < B) (hm : ∀ b,b ≠ g → w1.heap[b]? = w.heap[b]?) : Kd.R (Kd.int .u64) e w1 base (fun k => B ≤ k) v xs :=
 Kd.R_move h fun k hk => hm k (by have : B ≤ k := hk;omega)
theorem low_not {e base B : Nat} {w : World} {v : Value} {xs : List Int} (h : Kd.R (Kd.int .u64) e w base (fun k => B ≤ k) v xs) {k : Nat} (hk : k < B) : some k ≠ v.ownBlock := by
 intro he
 have : B ≤ k := h.1 k he.symm
 omega
theorem low_grown {e e' base base' g B : Nat} {w w1 : World} {u v : Value} {xs ys : List Int} (h : Kd.R (Kd.int .u64) e w base (fun k => k ≠ g ∧ k < B) u xs) (hv : Kd.R (Kd.int .u64) e' w base' (fun k => B ≤ k) v ys) (hg : w.grownBy w1 v.ownBlock) : Kd.R (Kd.int .u64) e w1 base (fun k => k ≠ g ∧ k < B) u xs :=
 Kd.R_grown h hg fun k hk => low_not hv hk.2
theorem left_drop {w : World} {A : Option Addr} {c m : Nat} {xs : List Int} (h : Kd.C (Kd.int .u64) w A xs.length xs) (hm : m ≤ xs.length) (hc : xs.length ≤ c) : Kd.C (Kd.int .u64) w (dropA A c m) (xs.drop m).length (xs.drop m) := by
 have := Kd.C_drop h hm hc
 rw [show m * (Kd.int .u64).sz = m from Nat.mul_one m] at this
 exact this
theorem drawn_belowT {w w' : World} (h : Drawn0 w w') : Below w.heap.size w w' := by
 obtain ⟨nd,rfl⟩ := h
 exact pw_below_drewN (Below.refl _ _) nd
def LeftL (w W : World) (g : Nat) (xs : List Int) : Prop := ∃ (A : Option Addr) (c : Nat),LeftAt W g A xs.length c ∧ Kd.C (Kd.int .u64) w A xs.length xs ∧ xs.length ≤ c
theorem left_step {w W : World} {g c m k : Nat} {A : Option Addr} {xs ys : List Int} (hx : xs = ys.drop k) (hc : xs.length ≤ c) (hm : m ≤ xs.length) (h : Kd.C (Kd.int .u64) w A xs.length xs) (hl : LeftAt W g (dropA A c m) (xs.length - m) (c - m)) {k' : Nat} (hk : k' = k + m) : LeftL w W g (ys.drop k') := by
 have e : ys.drop k' = xs.drop m := by rw [hx,List.drop_drop,hk]
 rw [e]
 refine ⟨dropA A c m,c - m,?_,left_drop h hm hc,by rw [List.length_drop];omega⟩
 rw [List.length_drop]
 exact hl
theorem left_start {w W : World} {g c m k : Nat} {A : Option Addr} {ys : List Int} (h : Kd.C (Kd.int .u64) w A ys.length ys) (hc : ys.length ≤ c) (hm : m + m ≤ ys.length) (hl : LeftAt W g (dropA (dropA A c m) (c - m) m) (ys.length - m - m) (c - m - m)) (hk : k = m + m) : LeftL w W g (ys.drop k) := by
 have h1 := left_drop h (m := m) (by omega) hc
 have e : ys.drop k = (ys.drop m).drop m := by rw [List.drop_drop,hk]
 have h2 := left_drop (c := c - m) (m := m) h1 (by rw [List.length_drop];omega) (by rw [List.length_drop];omega)
 rw [e]
 refine ⟨_,c - m - m,?_,h2,by rw [List.length_drop,List.length_drop];omega⟩
 rw [List.length_drop,List.length_drop]
 exact hl
theorem tri_rest {T O : Nat} {l : List Int} (hT : T = 1 ∨ T = 2) (hO : O = T * (T + 1) / 2) (hl : l.length = (T + 3) * (T * (T + 1) / 2)) : (T = 1 ∧ O = 1 ∧ l.length = 4) ∨ (T = 2 ∧ O = 3 ∧ l.length = 15) := by
 rcases hT with rfl|rfl
 ·exact Or.inl ⟨rfl,hO,hl⟩
 ·exact Or.inr ⟨rfl,hO,hl⟩
theorem tri_len2 {T m O : Nat} (h : m ≤ T) : (m + 2) * O + O ≤ (T + 3) * O := by
 have := Nat.mul_le_mul_right O (show m + 2 + 1 ≤ T + 3 by omega)
 rwa [Nat.succ_mul] at this
theorem tri_len {T m : Nat} (h : m < T) : m * T + T ≤ T * T := by
 have := Nat.mul_le_mul_right T (Nat.succ_le_of_lt h)
 rwa [Nat.succ_mul] at this
theorem mv_one (p t : Int) (A : Option Addr) (n c : Nat) : (#[.int .u64 p,.int .i64 t,.slice A n c] : Array Value).all (·.oneCell') = true := by simp only [List.all_toArray,List.all_cons,List.all_nil];rfl
def catF (f : Nat → List Int) : Nat → List Int
 | 0 => []
 | m + 1 => catF f m ++ f (m + 1)
theorem catF_len {f : Nat → List Int} {T : Nat} (h : ∀ j,j ≤ T → (f j).length ≤ 1000) : ∀ m,m ≤ T → (catF f m).length ≤ 1000 * m
 | 0,_ => by simp [catF]
 | m + 1,hm => by
  have := catF_len h m (by omega)
  have := h (m + 1) hm
  rw [catF,List.length_append]
  omega
set_option maxHeartbeats 16000000 in
set_option maxRecDepth 100000 in
theorem triple_walk (p N : Int) (T : Nat) (hT : T = 1 ∨ T = 2) (Ab : Option Addr) (cb : Nat) (bad : List Int) (da db : Int) (Ah : Option Addr) (ch : Nat) (head : List Int) (Ar : Option Addr) (cr : Nat) (rests : List Int)
  (z na nb m1 m2 more q r : List Int) (er : Int) (kz ka kb ks kd : Nat) (kn : Nat → Nat) (cf : Nat → Int) (nH nR : Nat → List Int) (ra rb : List Int)
  (w : World) (hrb : Kd.C (Kd.int .i64) w Ab bad.length bad) (hcb : bad.length ≤ cb) (hrh : Kd.C (Kd.int .u64) w Ah head.length head) (hch : head.length ≤ ch) (hrr : Kd.C (Kd.int .u64) w Ar rests.length rests) (hcr : rests.length ≤ cr)
  (lh : head.length = 2 * (T + 1) + T * T) (lr : rests.length = (T + 3) * (T * (T + 1) / 2))
  (fz : tapeshift_of.f kz p N (T : Int) bad = some (p,(T : Int),z))
  (fa : tapeshift_mover_by.f ka p (T : Int) z da (head.take (T + 1)) = some na) (fb : tapeshift_mover_by.f kb p (T : Int) z db ((head.drop (T + 1)).take (T + 1)) = some nb)
  (fm1 : poly_Mul.f p na nb = some m1) (fm2 : poly_Mul.f p (head.take (T + 1)) ((head.drop (T + 1)).take (T + 1)) = some m2) (fs : poly_Sub.f ks p m1 m2 = some more) (fd : poly_DivMod.f kd p more z = some (q,r,er))
  (fc : ∀ j,j ≤ T → poly_Coefficient.f q (j : Int) = some (cf j))
  (fn : ∀ j,j < T → tapeshift_mover_by.f (kn j) p (T : Int) z (cf (j + 1)) ((head.drop (2 * (T + 1) + j * T)).take T) = some (nH (j + 1)))
  (fra : tapeshift_mover_rest.f p (T : Int) z da (rests.take (T * (T + 1) / 2)) = some ra) (frb : tapeshift_mover_rest.f p (T : Int) z db ((rests.drop (T * (T + 1) / 2)).take (T * (T + 1) / 2)) = some rb)
  (frn : ∀ j,j < T → tapeshift_mover_rest.f p (T : Int) z (cf (j + 1)) ((rests.drop ((j + 2) * (T * (T + 1) / 2))).take (T * (T + 1) / 2)) = some (nR (j + 1)))
  (fr0 : tapeshift_mover_rest.f p (T : Int) z (cf 0) ((rests.drop ((T + 2) * (T * (T + 1) / 2))).take (T * (T + 1) / 2)) = some (nR 0))
  (lna : na.length = T + 1) (lnb : nb.length = T + 1) (lq : q.length ≤ 1000) (lnH : ∀ j,j ≤ T → (nH j).length ≤ 1000) (lnR : ∀ j,j ≤ T → (nR j).length ≤ 1000) (lra : ra.length ≤ 1000) (lrb : rb.length ≤ 1000) :
  Calls Try.prog 25 #[.agg #[.int .u64 p,.int .i64 N,.int .i64 (T : Int)],.slice Ab bad.length cb,.int .u64 da,.int .u64 db,.slice Ah head.length ch,.slice Ar rests.length cr] w fun e w' => ∃ v0_ v1_ : Value,e = .returned (.tuple #[v0_,v1_]) ∧ Kd.R (Kd.int .u64) 22 w' w.heap.size (fun k_ => some k_ ≠ (v1_ : Value).ownBlock) v0_ (na ++ nb ++ catF nH T) ∧ Kd.R (Kd.int .u64) 22 w' w.heap.size (fun k_ => some k_ ≠ (v0_ : Value).ownBlock) v1_ (ra ++ rb ++ catF nR T ++ nR 0) ∧ Below w.heap.size w w' := by
 have HRB_ := Aside0.mk hrb
 have HRH_ := Aside0.mk hrh
 have HRR_ := Aside0.mk hrr
 have LH_ := Aside0.mk lh
 have LR_ := Aside0.mk lr
 have FZ_ := Aside0.mk fz
 have FA_ := Aside0.mk fa
 have FB_ := Aside0.mk fb
 have FM1_ := Aside0.mk fm1
 have FM2_ := Aside0.mk fm2
 have FS_ := Aside0.mk fs
 have FD_ := Aside0.mk fd
 have FC_ := Aside0.mk fc
 have FN_ := Aside0.mk fn
 have FRA_ := Aside0.mk fra
 have FRB_ := Aside0.mk frb
 have FRN_ := Aside0.mk frn
 have FR0_ := Aside0.mk fr0
 have LNA_ := Aside0.mk lna
 have LNB_ := Aside0.mk lnb
 have LQ_ := Aside0.mk lq
 have LNH_ := Aside0.mk lnH
 have LNR_ := Aside0.mk lnR
 have LRA_ := Aside0.mk lra
 have LRB_ := Aside0.mk lrb
 have HT_ := Aside0.mk hT
 clear hrb hrh hrr lh lr fz fa fb fm1 fm2 fs fd fc fn fra frb frn fr0 lna lnb lq lnH lnR lra lrb hT
 obtain ⟨ha,hha⟩ : ∃ y,y = head.take (T + 1) := ⟨_,rfl⟩
 obtain ⟨hb_,hhb⟩ : ∃ y,y = (head.drop (T + 1)).take (T + 1) := ⟨_,rfl⟩
 have HHA := Aside0.mk hha
 have HHB := Aside0.mk hhb
 clear hha hhb
 have HB := Aside0.mk (Below.refl w.heap.size w)
 have hi24 : (Try.prog.info? 24).map (·.size) = some 3 := by kernel_rfl
 have hi59 : (Try.prog.info? 59).map (·.size) = some 3 := by kernel_rfl
 have HI59 := Aside0.mk hi59
 clear hi24 hi59
 have hT1 : wrap64 ((T : Int) + 1) = ((T + 1 : Nat) : Int) := by have := HT_.out;rw [wrap64];omega
 go_enter Try.func25,Try.ntmps25
 go_wp2_with (first
  | ((with_reducible refine gate_dst (N := 6) rfl ?_);refine box_event ?hg (N := 6) ?hd (cs := #[.int .u64 p,.int .i64 N,.int .i64 (T : Int)]) (t := 24) ?hr ?_;(case hd => rfl);(case hg => rfl);(case hr => first|(go_simp;done)|(go_simp;rfl));intro gs hg w1 hbox hb;have BS := Aside0.mk hbox;have s0 : w1.cell? ⟨gs,0,none⟩ = some (.int .u64 p) := (blk_cell BS.out 0).trans rfl;have s1 : w1.cell? ⟨gs,1,none⟩ = some (.int .i64 N) := (blk_cell BS.out 1).trans rfl;have s2 : w1.cell? ⟨gs,2,none⟩ = some (.int .i64 (T : Int)) := (blk_cell BS.out 2).trans rfl;clear HB;have HB := Aside0.mk hb;clear hbox hb hg)
  | (go_at_call 43;(with_reducible refine (tapeshift_of.calls kz p N (T : Int) Ab cb bad p (T : Int) z _ (Kd.C_below HRB_.out HB.out) hcb FZ_.out).mono ?_);rintro e w2 ⟨v2,rfl,ho,hb⟩;obtain ⟨Az,cz,ez⟩ := Kd.R_slice ho;subst ez;have RZ := Aside0.mk (Kd.R_lower ho (below_size HB.out));have n_ := Aside0.mk (below_step HB.out hb);clear HB;have HB := n_;clear n_ ho hb s0 s1 s2 BS)
  | ((with_reducible refine gate_dst (N := 14) rfl ?_);refine box_event ?hg (N := 14) ?hd (cs := #[.int .u64 0,.int .i64 0,.slice none 0 0]) (t := 59) ?hr ?_;(case hd => rfl);(case hg => rfl);(case hr => first|(go_simp;done)|(go_simp;rfl));intro gm hg w3 hbox hb;have GE := Aside0.mk (show w2.heap.size ≤ gm from Nat.le_of_eq hg.symm);have BP := Aside0.mk hb;have GM := Aside0.mk hbox;clear hbox hb hg)
  | ((with_reducible refine gate_store (p := 14) rfl ?_);refine st_row rfl 59 (.tmp 14) (.tmp 31) rfl gm #[.int .u64 p,.int .i64 (T : Int),.slice Az z.length cz] (by rfl) (by rfl) 59 #[.int .u64 0,.int .i64 0,.slice none 0 0] GM.out HI59.out rfl (mv_one _ _ _ _ _) ?_;intro w4 hbk hbw hbo;have hb := hbw _ _ GE.out BP.out;clear BP hbw hbo;have n_ := Aside0.mk (below_step HB.out hb);have k_ := Aside0.mk (Kd.R_below RZ.out hb);have GW := Aside0.mk (Nat.le_trans (below_size HB.out) GE.out);clear HB RZ GM GE;have HB := n_;have RZ := k_;have GM := Aside0.mk hbk;clear hb hbk n_ k_)
  | (go_at_call 50;(with_reducible refine (cutter_walk Ah head.length ch _).mono ?_);rintro e w5 ⟨g1,rfl,hge,hl,hb⟩;have NE := Aside0.mk (show gm ≠ g1 from Nat.ne_of_lt (Nat.lt_of_lt_of_le (blk_lt GM.out) hge));have G1W := Aside0.mk (Nat.le_trans (below_size HB.out) hge);have LF := Aside0.mk hl;have n_ := Aside0.mk (below_step HB.out hb);have k_ := Aside0.mk (Kd.R_below (R_before RZ.out hge) hb);have j_ := Aside0.mk (blk_below GM.out hb);clear HB RZ GM;have HB := n_;have RZ := k_;have GM := j_;clear n_ k_ j_ hge hl hb))
 refine start_ (n := 12) (S := (fun w' => w'.cell? ⟨gm,0,none⟩ = some (.int .u64 p) ∧ w'.cell? ⟨gm,1,none⟩ = some (.int .i64 (T : Int)) ∧ w'.cell? ⟨gm,2,none⟩ = some (.slice Az z.length cz))) (ds := []) (bz 12 0) (by kernel_rfl) rfl rfl ⟨(blk_cell GM.out 0).trans rfl,(blk_cell GM.out 1).trans rfl,(blk_cell GM.out 2).trans rfl⟩ (fun hHeld => ?_)
 refine pu 0 34 (bz 12 1) ?_
 refine pu 1 35 (bz 12 3) ?_
 refine tu 2 36 (bz 12 7) hHeld ?_
 refine pu 3 37 (bz 12 15) ?_
 refine pu 5 39 (bz 12 47) ?_
 refine pu 6 40 (bz 12 111) ?_
 refine tu 7 41 (bz 12 239) hHeld ?_
 refine pu 8 42 (bz 12 495) ?_
 refine one_ (i := 4) (N := some 38) (bz 12 511) rfl rfl (by kernel_rfl) (by decide) (fun K hK => ?_)
 refine goesC_ Try.func79 (by kernel_rfl) rfl #[.pointer (some ⟨g1,0,none⟩)] #[.int .i64 (wrap64 ((T : Int) + 1))] (by rfl) rfl rfl (by rfl) (by (try simp only [List.map_toArray,List.map_cons,List.map_nil]);first|done|rfl) ?_
 show Calls Try.prog 79 #[.int .i64 (wrap64 ((T : Int) + 1)),.pointer (some ⟨g1,0,none⟩)] _ _
 rw [hT1]
 refine (take_walk g1 Ah head.length ch (T + 1) _ (by exact blk_drew LF.out) hch (by have := LH_.out;omega)).mono ?_
 rintro e w101 ⟨rfl,hl,ho,hbw⟩
 have n_ := Aside0.mk (hbw _ _ G1W.out (below_drew HB.out))
 have nRZ := Aside0.mk (R_far (Kd.R_drew RZ.out) ho)
 have nGM := Aside0.mk ((ho gm NE.out).trans (blk_drew GM.out))
 have nLF := Aside0.mk hl
 clear HB GM LF RZ
 have HB := n_
 have GM := nGM
 have LF := nLF
 have RZ := nRZ
 clear hl ho hbw n_ nGM nLF nRZ
 refine ⟨_,rfl,?_⟩
 clear hHeld
 refine hK.out _ _ ⟨(blk_cell GM.out 0).trans rfl,(blk_cell GM.out 1).trans rfl,(blk_cell GM.out 2).trans rfl⟩ (fun hHeld => ?_)
 clear hK K
 refine nm 38 ?_
 refine one_ (i := 9) (N := some 43) (bz 12 1023) rfl rfl (by kernel_rfl) (by decide) (fun K hK => ?_)
 refine goesC_ Try.func79 (by kernel_rfl) rfl #[.pointer (some ⟨g1,0,none⟩)] #[.int .i64 ((T + 1 : Nat) : Int)] (by rfl) rfl rfl (by rfl) (by (try simp only [List.map_toArray,List.map_cons,List.map_nil]);first|done|rfl) ?_
 show Calls Try.prog 79 #[.int .i64 ((T + 1 : Nat) : Int),.pointer (some ⟨g1,0,none⟩)] _ _
 refine (take_walk g1 (dropA Ah ch (T + 1)) (head.length - (T + 1)) (ch - (T + 1)) (T + 1) _ (by exact LF.out) (by omega) (by have := LH_.out;omega)).mono ?_
 rintro e w102 ⟨rfl,hl,ho,hbw⟩
 have n_ := Aside0.mk (hbw _ _ G1W.out (HB.out))
 have nRZ := Aside0.mk (R_far RZ.out ho)
 have nGM := Aside0.mk ((ho gm NE.out).trans GM.out)
 have nLF := Aside0.mk hl
 clear HB GM LF RZ
 have HB := n_
 have GM := nGM
 have LF := nLF
 have RZ := nRZ
 clear hl ho hbw n_ nGM nLF nRZ
 refine ⟨_,rfl,?_⟩
 clear hHeld
 refine hK.out _ _ ⟨(blk_cell GM.out 0).trans rfl,(blk_cell GM.out 1).trans rfl,(blk_cell GM.out 2).trans rfl⟩ (fun hHeld => ?_)
 clear hK K
 refine nm 43 ?_
 refine pu 10 16 (bz 12 2047) ?_
 refine pu 11 17 (bz 12 4095) ?_
 clear hHeld
 refine done_ (by kernel_rfl) ?_
 have hla : ha.length = T + 1 := by rw [HHA.out,List.length_take];have := LH_.out;omega
 have hlb : hb_.length = T + 1 := by rw [HHB.out,List.length_take,List.length_drop];have := LH_.out;omega
 have CA := Aside0.mk (show Kd.C (Kd.int .u64) w Ah ha.length ha by rw [HHA.out];exact Kd.C_take HRH_.out (by have := LH_.out;omega))
 have CBd := Aside0.mk (left_drop HRH_.out (m := T + 1) (by have := LH_.out;omega) hch)
 have CBl := Aside0.mk (show Kd.C (Kd.int .u64) w (dropA Ah ch (T + 1)) hb_.length hb_ by rw [HHB.out];exact Kd.C_take CBd.out (by rw [List.length_drop];have := LH_.out;omega))
 have EA := Aside0.mk (show Value.slice Ah (T + 1) ch = Value.slice Ah ha.length ch by rw [hla])
 have EB := Aside0.mk (show Value.slice (dropA Ah ch (T + 1)) (T + 1) (ch - (T + 1)) = Value.slice (dropA Ah ch (T + 1)) hb_.length (ch - (T + 1)) by rw [hlb])
 have HLA := Aside0.mk (show ha.length ≤ ch by rw [hla];have := LH_.out;omega)
 have HLB := Aside0.mk (show hb_.length ≤ ch - (T + 1) by rw [hlb];have := LH_.out;omega)
 have FA := Aside0.mk (show tapeshift_mover_by.f ka p (T : Int) z da ha = some na by rw [HHA.out];exact FA_.out)
 have FB := Aside0.mk (show tapeshift_mover_by.f kb p (T : Int) z db hb_ = some nb by rw [HHB.out];exact FB_.out)
 have FM2 := Aside0.mk (show poly_Mul.f p ha hb_ = some m2 by rw [HHA.out,HHB.out];exact FM2_.out)
 clear hla hlb
 rw [EA.out,EB.out]
 go_wp2
 refine start_ (n := 10) (S := (fun w' => w'.cell? ⟨gm,0,none⟩ = some (.int .u64 p) ∧ w'.cell? ⟨gm,1,none⟩ = some (.int .i64 (T : Int)) ∧ w'.cell? ⟨gm,2,none⟩ = some (.slice Az z.length cz))) (ds := []) (bz 10 0) (by kernel_rfl) rfl rfl ⟨(blk_cell GM.out 0).trans rfl,(blk_cell GM.out 1).trans rfl,(blk_cell GM.out 2).trans rfl⟩ (fun hHeld => ?_)
 refine tu 0 44 (bz 10 1) hHeld ?_
 refine pu 1 45 (bz 10 3) ?_
 refine pu 2 46 (bz 10 7) ?_
 refine tu 4 48 (bz 10 23) hHeld ?_
 refine pu 5 49 (bz 10 55) ?_
 refine pu 6 50 (bz 10 119) ?_
 refine one_ (i := 3) (N := some 47) (bz 10 127) rfl rfl (by kernel_rfl) (by decide) (fun K hK => ?_)
 refine goes_ Try.func44 (by kernel_rfl) rfl #[.agg #[.int .u64 p,.int .i64 (T : Int),.slice Az z.length cz],.int .u64 da,.slice Ah ha.length ch] (by rfl) rfl rfl (by (try simp only [List.map_toArray,List.map_cons,List.map_nil]);first|done|rfl) ?_
 refine (tapeshift_mover_by.calls ka p (T : Int) Az cz z da Ah ch ha na _ (by first|exact (Kd.R_reads' RZ.out).2.2|exact (Kd.R_reads' (Kd.R_drew RZ.out)).2.2) (Kd.R_reads' RZ.out).2.1 (by first|exact Kd.C_below CA.out HB.out|exact Kd.C_below CA.out (below_drew HB.out)) HLA.out FA.out).mono ?_
 rintro e w103 ⟨v18,rfl,ho,hb⟩
 have nR18_ := Aside0.mk (R_fresh ho (b0 := w.heap.size) (g := g1) (by exact below_size (below_drew HB.out)) (by exact blk_lt (blk_drew LF.out)))
 obtain ⟨A18,c18,e_⟩ := Kd.R_slice ho
 subst e_
 clear ho
 have n_ := Aside0.mk (below_step (below_drew HB.out) hb)
 have nRZ := Aside0.mk (Kd.R_below (Kd.R_drew RZ.out) hb)
 have nGM := Aside0.mk (blk_below (blk_drew GM.out) hb)
 have nLF := Aside0.mk (show LeftAt w103 _ _ _ _ from blk_below (blk_drew LF.out) hb)
 clear HB GM LF RZ
 have HB := n_
 have GM := nGM
 have LF := nLF
 have RZ := nRZ
 clear hb n_ nGM nLF nRZ
 have R18 := nR18_
 clear nR18_
 refine ⟨_,rfl,?_⟩
 clear hHeld
 refine hK.out _ _ ⟨(blk_cell GM.out 0).trans rfl,(blk_cell GM.out 1).trans rfl,(blk_cell GM.out 2).trans rfl⟩ (fun hHeld => ?_)
 clear hK K
 refine nm 47 ?_
 refine one_ (i := 7) (N := some 51) (bz 10 255) rfl rfl (by kernel_rfl) (by decide) (fun K hK => ?_)
 refine goes_ Try.func44 (by kernel_rfl) rfl #[.agg #[.int .u64 p,.int .i64 (T : Int),.slice Az z.length cz],.int .u64 db,.slice (dropA Ah ch (T + 1)) hb_.length (ch - (T + 1))] (by rfl) rfl rfl (by (try simp only [List.map_toArray,List.map_cons,List.map_nil]);first|done|rfl) ?_
 refine (tapeshift_mover_by.calls kb p (T : Int) Az cz z db (dropA Ah ch (T + 1)) (ch - (T + 1)) hb_ nb _ (by first|exact (Kd.R_reads' RZ.out).2.2|exact (Kd.R_reads' (Kd.R_drew RZ.out)).2.2) (Kd.R_reads' RZ.out).2.1 (by first|exact Kd.C_below CBl.out HB.out|exact Kd.C_below CBl.out (below_drew HB.out)) HLB.out FB.out).mono ?_
 rintro e w104 ⟨v19,rfl,ho,hb⟩
 have nR19_ := Aside0.mk (R_fresh ho (b0 := w.heap.size) (g := g1) (by exact below_size HB.out) (by exact blk_lt LF.out))
 obtain ⟨A19,c19,e_⟩ := Kd.R_slice ho
 subst e_
 clear ho
 have n_ := Aside0.mk (below_step (HB.out) hb)
 have nRZ := Aside0.mk (Kd.R_below RZ.out hb)
 have nR18 := Aside0.mk (Kd.R_below R18.out hb)
 have nGM := Aside0.mk (blk_below GM.out hb)
 have nLF := Aside0.mk (show LeftAt w104 _ _ _ _ from blk_below LF.out hb)
 clear HB GM LF RZ R18
 have HB := n_
 have GM := nGM
 have LF := nLF
 have RZ := nRZ
 have R18 := nR18
 clear hb n_ nGM nLF nRZ nR18
 have R19 := nR19_
 clear nR19_
 refine ⟨_,rfl,?_⟩
 clear hHeld
 refine hK.out _ _ ⟨(blk_cell GM.out 0).trans rfl,(blk_cell GM.out 1).trans rfl,(blk_cell GM.out 2).trans rfl⟩ (fun hHeld => ?_)
 clear hK K
 refine nm 51 ?_
 refine pu 8 18 (bz 10 511) ?_
 refine pu 9 19 (bz 10 1023) ?_
 clear hHeld
 refine done_ (by kernel_rfl) ?_
 go_wp2
 refine start_ (n := 14) (S := (fun w' => w'.cell? ⟨gm,0,none⟩ = some (.int .u64 p) ∧ w'.cell? ⟨gm,1,none⟩ = some (.int .i64 (T : Int)) ∧ w'.cell? ⟨gm,2,none⟩ = some (.slice Az z.length cz))) (ds := []) (bz 14 0) (by kernel_rfl) rfl rfl ⟨(blk_cell GM.out 0).trans rfl,(blk_cell GM.out 1).trans rfl,(blk_cell GM.out 2).trans rfl⟩ (fun hHeld => ?_)
 refine pu 0 52 (bz 14 1) ?_
 refine tu 1 53 (bz 14 3) hHeld ?_
 refine pu 2 54 (bz 14 7) ?_
 refine tu 3 55 (bz 14 15) hHeld ?_
 refine pu 4 56 (bz 14 31) ?_
 refine pu 5 57 (bz 14 63) ?_
 refine pu 7 59 (bz 14 191) ?_
 refine tu 8 60 (bz 14 447) hHeld ?_
 refine pu 9 61 (bz 14 959) ?_
 refine pu 10 62 (bz 14 1983) ?_
 refine one_ (i := 6) (N := some 58) (bz 14 2047) rfl rfl (by kernel_rfl) (by decide) (fun K hK => ?_)
 refine goes_ Try.func52 (by kernel_rfl) rfl #[.int .u64 p,.slice A18 na.length c18,.slice A19 nb.length c19] (by rfl) rfl rfl (by (try simp only [List.map_toArray,List.map_cons,List.map_nil]);first|done|rfl) ?_
 refine (poly_Mul.calls p A18 c18 na A19 c19 nb m1 _ (by first|exact (Kd.R_reads' R18.out).2.2|exact (Kd.R_reads' (Kd.R_drew R18.out)).2.2) (Kd.R_reads' R18.out).2.1 (by first|exact (Kd.R_reads' R19.out).2.2|exact (Kd.R_reads' (Kd.R_drew R19.out)).2.2) (Kd.R_reads' R19.out).2.1 FM1_.out).mono ?_
 rintro e w105 ⟨v58,rfl,ho,hb⟩
 have nR58_ := Aside0.mk (R_fresh ho (b0 := w.heap.size) (g := g1) (by exact below_size (below_drew HB.out)) (by exact blk_lt (blk_drew LF.out)))
 obtain ⟨A58,c58,e_⟩ := Kd.R_slice ho
 subst e_
 clear ho
 have n_ := Aside0.mk (below_step (below_drew HB.out) hb)
 have nRZ := Aside0.mk (Kd.R_below (Kd.R_drew RZ.out) hb)
 have nR18 := Aside0.mk (Kd.R_below (Kd.R_drew R18.out) hb)
 have nR19 := Aside0.mk (Kd.R_below (Kd.R_drew R19.out) hb)
 have nGM := Aside0.mk (blk_below (blk_drew GM.out) hb)
 have nLF := Aside0.mk (show LeftAt w105 _ _ _ _ from blk_below (blk_drew LF.out) hb)
 clear HB GM LF RZ R18 R19
 have HB := n_
 have GM := nGM
 have LF := nLF
 have RZ := nRZ
 have R18 := nR18
 have R19 := nR19
 clear hb n_ nGM nLF nRZ nR18 nR19
 have R58 := nR58_
 clear nR58_
 refine ⟨_,rfl,?_⟩
 clear hHeld
 refine hK.out _ _ ⟨(blk_cell GM.out 0).trans rfl,(blk_cell GM.out 1).trans rfl,(blk_cell GM.out 2).trans rfl⟩ (fun hHeld => ?_)
 clear hK K
 refine nm 58 ?_
 refine one_ (i := 11) (N := some 63) (bz 14 4095) rfl rfl (by kernel_rfl) (by decide) (fun K hK => ?_)
 refine goes_ Try.func52 (by kernel_rfl) rfl #[.int .u64 p,.slice Ah ha.length ch,.slice (dropA Ah ch (T + 1)) hb_.length (ch - (T + 1))] (by rfl) rfl rfl (by (try simp only [List.map_toArray,List.map_cons,List.map_nil]);first|done|rfl) ?_
 refine (poly_Mul.calls p Ah ch ha (dropA Ah ch (T + 1)) (ch - (T + 1)) hb_ m2 _ (by first|exact Kd.C_below CA.out HB.out|exact Kd.C_below CA.out (below_drew HB.out)) HLA.out (by first|exact Kd.C_below CBl.out HB.out|exact Kd.C_below CBl.out (below_drew HB.out)) HLB.out FM2.out).mono ?_
 rintro e w106 ⟨v63,rfl,ho,hb⟩
 have nR63_ := Aside0.mk (R_fresh ho (b0 := w.heap.size) (g := g1) (by exact below_size HB.out) (by exact blk_lt LF.out))
 obtain ⟨A63,c63,e_⟩ := Kd.R_slice ho
 subst e_
 clear ho
 have n_ := Aside0.mk (below_step (HB.out) hb)
 have nRZ := Aside0.mk (Kd.R_below RZ.out hb)
 have nR18 := Aside0.mk (Kd.R_below R18.out hb)
 have nR19 := Aside0.mk (Kd.R_below R19.out hb)
 have nR58 := Aside0.mk (Kd.R_below R58.out hb)
 have nGM := Aside0.mk (blk_below GM.out hb)
 have nLF := Aside0.mk (show LeftAt w106 _ _ _ _ from blk_below LF.out hb)
 clear HB GM LF RZ R18 R19 R58
 have HB := n_
 have GM := nGM
 have LF := nLF
 have RZ := nRZ
 have R18 := nR18
 have R19 := nR19
 have R58 := nR58
 clear hb n_ nGM nLF nRZ nR18 nR19 nR58
 have R63 := nR63_
 clear nR63_
 refine ⟨_,rfl,?_⟩
 clear hHeld
 refine hK.out _ _ ⟨(blk_cell GM.out 0).trans rfl,(blk_cell GM.out 1).trans rfl,(blk_cell GM.out 2).trans rfl⟩ (fun hHeld => ?_)
 clear hK K
 refine nm 63 ?_
 refine one_ (i := 12) (N := some 64) (bz 14 8191) rfl rfl (by kernel_rfl) (by decide) (fun K hK => ?_)
 refine goes_ Try.func51 (by kernel_rfl) rfl #[.int .u64 p,.slice A58 m1.length c58,.slice A63 m2.length c63] (by rfl) rfl rfl (by (try simp only [List.map_toArray,List.map_cons,List.map_nil]);first|done|rfl) ?_
 refine (poly_Sub.calls ks p A58 c58 m1 A63 c63 m2 more _ (by first|exact (Kd.R_reads' R58.out).2.2|exact (Kd.R_reads' (Kd.R_drew R58.out)).2.2) (Kd.R_reads' R58.out).2.1 (by first|exact (Kd.R_reads' R63.out).2.2|exact (Kd.R_reads' (Kd.R_drew R63.out)).2.2) (Kd.R_reads' R63.out).2.1 FS_.out).mono ?_
 rintro e w107 ⟨v64,rfl,ho,hb⟩
 have nR64_ := Aside0.mk (R_fresh ho (b0 := w.heap.size) (g := g1) (by exact below_size HB.out) (by exact blk_lt LF.out))
 obtain ⟨A64,c64,e_⟩ := Kd.R_slice ho
 subst e_
 clear ho
 have n_ := Aside0.mk (below_step (HB.out) hb)
 have nRZ := Aside0.mk (Kd.R_below RZ.out hb)
 have nR18 := Aside0.mk (Kd.R_below R18.out hb)
 have nR19 := Aside0.mk (Kd.R_below R19.out hb)
 have nR58 := Aside0.mk (Kd.R_below R58.out hb)
 have nR63 := Aside0.mk (Kd.R_below R63.out hb)
 have nGM := Aside0.mk (blk_below GM.out hb)
 have nLF := Aside0.mk (show LeftAt w107 _ _ _ _ from blk_below LF.out hb)
 clear HB GM LF RZ R18 R19 R58 R63
 have HB := n_
 have GM := nGM
 have LF := nLF
 have RZ := nRZ
 have R18 := nR18
 have R19 := nR19
 have R58 := nR58
 have R63 := nR63
 clear hb n_ nGM nLF nRZ nR18 nR19 nR58 nR63
 have R64 := nR64_
 clear nR64_
 refine ⟨_,rfl,?_⟩
 clear hHeld
 refine hK.out _ _ ⟨(blk_cell GM.out 0).trans rfl,(blk_cell GM.out 1).trans rfl,(blk_cell GM.out 2).trans rfl⟩ (fun hHeld => ?_)
 clear hK K
 refine nm 64 ?_
 refine pu 13 20 (bz 14 16383) ?_
 clear hHeld
 refine done_ (by kernel_rfl) ?_
 obtain ⟨L2,hL2⟩ : ∃ y,y = [na,nb] := ⟨_,rfl⟩
 have NL2 := Aside0.mk hL2
 clear hL2
 have m0 : w107.cell? ⟨gm,0,none⟩ = some (.int .u64 p) := (blk_cell GM.out 0).trans rfl;have m1 : w107.cell? ⟨gm,1,none⟩ = some (.int .i64 (T : Int)) := (blk_cell GM.out 1).trans rfl;have m2 : w107.cell? ⟨gm,2,none⟩ = some (.slice Az z.length cz) := (blk_cell GM.out 2).trans rfl
 go_wp2_with (first
  | (go_at_call 53;(with_reducible refine (poly_DivMod.calls kd p A64 c64 more Az cz z q r er _ (Kd.R_reads' R64.out).2.2 (Kd.R_reads' R64.out).2.1 (Kd.R_reads' RZ.out).2.2 (Kd.R_reads' RZ.out).2.1 FD_.out).mono ?_);rintro e w108 ⟨v21,v22,rfl,ho,hor,hb⟩;have nR21_ := Aside0.mk (R_fresh ho (b0 := w.heap.size) (g := g1) (by exact below_size HB.out) (by exact blk_lt LF.out));obtain ⟨A21,c21,e_⟩ := Kd.R_slice ho;subst e_;clear ho hor;clear R58 R63 R64;have n_ := Aside0.mk (below_step (HB.out) hb);have nRZ := Aside0.mk (Kd.R_below RZ.out hb);have nR18 := Aside0.mk (Kd.R_below R18.out hb);have nR19 := Aside0.mk (Kd.R_below R19.out hb);have nGM := Aside0.mk (blk_below GM.out hb);have nLF := Aside0.mk (show LeftAt w108 _ _ _ _ from blk_below LF.out hb);clear HB GM LF RZ R18 R19;have HB := n_;have GM := nGM;have LF := nLF;have RZ := nRZ;have R18 := nR18;have R19 := nR19;clear hb n_ nGM nLF nRZ nR18 nR19;have R21 := nR21_;clear nR21_ m0 m1 m2;have m0 : w108.cell? ⟨gm,0,none⟩ = some (.int .u64 p) := (blk_cell GM.out 0).trans rfl;have m1 : w108.cell? ⟨gm,1,none⟩ = some (.int .i64 (T : Int)) := (blk_cell GM.out 1).trans rfl;have m2 : w108.cell? ⟨gm,2,none⟩ = some (.slice Az z.length cz) := (blk_cell GM.out 2).trans rfl)
  | ((with_reducible refine gate_dst (N := 77) rfl ?_);(try (refine gate_guard (by rfl) ?_;dsimp only));refine Kd.N_lit (Kd.slice 22 (Kd.int .u64)) _ 26 ?hg (N' := 77) ?hd (xs := ([na,nb] : List (List Int))) (inner := [.slice A18 na.length c18,.slice A19 nb.length c19]) (ok := fun _ => True) (okp := fun k => k < g1 ∨ g1 < k) ?hr ?hp (fun _ _ => trivial) trivial (Below.refl _ _) (Nat.le_refl _) (by simp) ?_;(case hd => rfl);(case hg => rfl);(case hr => first|(go_simp;done)|(go_simp;rfl));(case hp => exact (Reps.one (show Kd.FK (Kd.slice 22 (Kd.int .u64)) _ _ na [.slice A18 na.length c18] from (Kd.FK_slice_mk (Kd.R_reads' R18.out).2.1 (Kd.R_F R18.out))) (Reps.one (show Kd.FK (Kd.slice 22 (Kd.int .u64)) _ _ nb [.slice A19 nb.length c19] from (Kd.FK_slice_mk (Kd.R_reads' R19.out).2.1 (Kd.R_F R19.out))) (Reps.none _ _))));intro v77 w109 ho hb hg_ hnew_;clear hg_ hnew_;rw [← NL2.out] at ho;obtain ⟨A77,c77,e77⟩ := Kd.N_slice ho;subst e77;have C77 := Aside0.mk (Kd.N_reads' ho).2.2;have L77 := Aside0.mk (Kd.N_reads' ho).2.1;clear ho;clear R18 R19;have n_ := Aside0.mk (below_step (HB.out) hb);have nRZ := Aside0.mk (Kd.R_below RZ.out hb);have nR21 := Aside0.mk (Kd.R_below R21.out hb);have nGM := Aside0.mk (blk_below GM.out hb);have nLF := Aside0.mk (show LeftAt w109 _ _ _ _ from blk_below LF.out hb);clear HB GM LF RZ R21;have HB := n_;have GM := nGM;have LF := nLF;have RZ := nRZ;have R21 := nR21;clear hb n_ nGM nLF nRZ nR21;clear m0 m1 m2;have m0 : w109.cell? ⟨gm,0,none⟩ = some (.int .u64 p) := (blk_cell GM.out 0).trans rfl;have m1 : w109.cell? ⟨gm,1,none⟩ = some (.int .i64 (T : Int)) := (blk_cell GM.out 1).trans rfl;have m2 : w109.cell? ⟨gm,2,none⟩ = some (.slice Az z.length cz) := (blk_cell GM.out 2).trans rfl)
  | (go_at_call 54;(with_reducible refine (concat_walk A77 c77 L2 _ C77.out L77.out (by rw [NL2.out];simp) (by rw [NL2.out];intro x hx;simp only [List.mem_cons,List.not_mem_nil,or_false] at hx;have h1 := LNA_.out;have h2 := LNB_.out;have := HT_.out;rcases hx with rfl|rfl <;> omega)).mono ?_);rintro e w110 ⟨v24,rfl,ho,hb⟩;obtain ⟨B,hB_⟩ : ∃ y,y = w109.heap.size := ⟨_,rfl⟩;have NB := Aside0.mk hB_;clear hB_;have BW := Aside0.mk (show w.heap.size ≤ B by rw [NB.out];exact below_size HB.out);have GB := Aside0.mk (show gm < B by rw [NB.out];exact blk_lt GM.out);have LB := Aside0.mk (show g1 < B by rw [NB.out];exact blk_lt LF.out);have nR24_ := Aside0.mk (show Kd.R (Kd.int .u64) 22 _ w.heap.size (fun k => B ≤ k) _ _ by rw [NB.out];exact R_highs ho (below_size HB.out));clear ho;have n_ := Aside0.mk (show Kd.R (Kd.int .u64) 22 _ w.heap.size (fun k => k ≠ g1 ∧ k < B) _ _ by rw [NB.out];exact R_lows RZ.out);clear RZ;have RZ := n_;clear n_;have n_ := Aside0.mk (show Kd.R (Kd.int .u64) 22 _ w.heap.size (fun k => k ≠ g1 ∧ k < B) _ _ by rw [NB.out];exact R_lows R21.out);clear R21;have R21 := n_;clear n_;have BS := Aside0.mk (show B ≤ w109.heap.size by rw [NB.out];exact Nat.le_refl _);clear NB;have n_ := Aside0.mk (below_step (HB.out) hb);have nRZ := Aside0.mk (Kd.R_below RZ.out hb);have nR21 := Aside0.mk (Kd.R_below R21.out hb);have h_ := below_size hb;have nBS := Aside0.mk (Nat.le_trans BS.out h_);clear h_;have nGM := Aside0.mk (blk_below GM.out hb);have nLF := Aside0.mk (show LeftAt w110 _ _ _ _ from blk_below LF.out hb);clear HB GM LF RZ R21 BS;have HB := n_;have GM := nGM;have LF := nLF;have BS := nBS;have RZ := nRZ;have R21 := nR21;clear hb n_ nGM nLF nRZ nR21 nBS;have R24 := nR24_;clear nR24_ m0 m1 m2;have m0 : w110.cell? ⟨gm,0,none⟩ = some (.int .u64 p) := (blk_cell GM.out 0).trans rfl;have m1 : w110.cell? ⟨gm,1,none⟩ = some (.int .i64 (T : Int)) := (blk_cell GM.out 1).trans rfl;have m2 : w110.cell? ⟨gm,2,none⟩ = some (.slice Az z.length cz) := (blk_cell GM.out 2).trans rfl))
 have R24_ := R24;clear R24
 have R24 := Aside0.mk (show Kd.R (Kd.int .u64) 22 w110 w.heap.size (fun k => B ≤ k) v24 (na ++ nb ++ catF nH 0) by have h := R24_.out;rw [NL2.out] at h;simpa [catF] using h)
 have LL := Aside0.mk (show LeftL w w110 g1 (head.drop (2 * (T + 1) + 0 * T)) from by exact left_start HRH_.out hch (by have := LH_.out;omega) LF.out (by omega))
 clear m0 m1 m2 R24_ NL2 C77 L77 HHA HHB CA CBd CBl EA EB HLA HLB FA FB FM2 HRB_ HRH_
 go_loopg [24,25] T (fun kq v24 v25 w' => ∃ n m : Nat,v25 = .int .i64 (n : Int) ∧ Aside0 (kq + n = T + 1) ∧ Aside0 (n = m + 1) ∧ Aside0 (Kd.R (Kd.int .u64) 22 w' w.heap.size (fun k => B ≤ k) v24 (na ++ nb ++ catF nH m)) ∧ Aside0 (Kd.R (Kd.int .u64) 22 w' w.heap.size (fun k => k ≠ g1 ∧ k < B) (.slice Az z.length cz) (z)) ∧ Aside0 (Kd.R (Kd.int .u64) 22 w' w.heap.size (fun k => k ≠ g1 ∧ k < B) (.slice A21 q.length c21) (q)) ∧ Aside0 (B ≤ w'.heap.size) ∧ Aside0 (w'.heap[gm]? = some (.cells #[.int .u64 p,.int .i64 (T : Int),.slice Az z.length cz] 59 (0,0))) ∧ Aside0 (LeftL w w' g1 (head.drop (2 * (T + 1) + m * T))) ∧ Aside0 (Below w.heap.size w w'))
 case atStart => exact ⟨1,0,rfl,⟨by omega⟩,⟨rfl⟩,R24,RZ,R21,BS,GM,LL,HB⟩
 case round =>
  clear R24 RZ R21 BS GM LF LL HB
  obtain ⟨n,m,rfl,HK,HM,R24,RZ,R21,BS,GM,LL,HB⟩ := hrel
  have hmn := HM.out
  have m0 : wr.cell? ⟨gm,0,none⟩ = some (.int .u64 p) := (blk_cell GM.out 0).trans rfl;have m1 : wr.cell? ⟨gm,1,none⟩ = some (.int .i64 (T : Int)) := (blk_cell GM.out 1).trans rfl;have m2 : wr.cell? ⟨gm,2,none⟩ = some (.slice Az z.length cz) := (blk_cell GM.out 2).trans rfl
  by_cases hlt : n ≤ T
  ·have q1 : decide ((n : Int) ≤ (T : Int)) = true := decide_eq_true (by omega)
   have q2 : decide (n ≤ T) = true := decide_eq_true hlt
   have q3 : ((n : Int) ≤ (T : Int)) = True := eq_true (by omega)
   have hmT := tri_len (show m < T by omega)
   obtain ⟨xs,hxs⟩ : ∃ y,y = head.drop (2 * (T + 1) + m * T) := ⟨_,rfl⟩
   rw [← hxs] at LL
   obtain ⟨AL,cL,lf,cl,hcl⟩ := LL.out
   have LF := Aside0.mk lf;have CL := Aside0.mk cl;have HCL := Aside0.mk hcl
   clear lf cl hcl LL
   have hxl : T ≤ xs.length := by rw [hxs,List.length_drop];have := LH_.out;omega
   have XL := Aside0.mk hxl
   have XS := Aside0.mk hxs
   obtain ⟨y,hy⟩ : ∃ y,y = xs.take T := ⟨_,rfl⟩
   have hyl : y.length = T := by rw [hy,List.length_take];omega
   have EY := Aside0.mk (show Value.slice AL T cL = Value.slice AL y.length cL by rw [hyl])
   have YL := Aside0.mk hyl
   have CY := Aside0.mk (show Kd.C (Kd.int .u64) w AL y.length y by rw [hy];exact Kd.C_take CL.out hxl)
   have FC := Aside0.mk (FC_.out n hlt)
   have FNm := Aside0.mk (show tapeshift_mover_by.f (kn m) p (T : Int) z (cf n) y = some (nH n) by rw [hy,hxs,hmn];exact FN_.out m (by omega))
   have ECAT := Aside0.mk (show na ++ nb ++ catF nH m ++ nH n = na ++ nb ++ catF nH (m + 1) by rw [hmn];simp [catF,List.append_assoc])
   have LCAT := Aside0.mk (show ((na ++ nb ++ catF nH m).length + (nH n).length) * 8 ≤ 140737488355328 by have h1 := catF_len LNH_.out m (by omega);have h2 := LNH_.out n hlt;have h3 := LNA_.out;have h4 := LNB_.out;have h5 := HT_.out;simp only [List.length_append];omega)
   clear hmT hxs hy hyl hmn hxl
   go_wp2
   refine start_ (n := 12) (S := (fun w' => w'.cell? ⟨gm,0,none⟩ = some (.int .u64 p) ∧ w'.cell? ⟨gm,1,none⟩ = some (.int .i64 (T : Int)) ∧ w'.cell? ⟨gm,2,none⟩ = some (.slice Az z.length cz))) (ds := []) (bz 12 0) (by kernel_rfl) rfl rfl ⟨(blk_cell GM.out 0).trans rfl,(blk_cell GM.out 1).trans rfl,(blk_cell GM.out 2).trans rfl⟩ (fun hHeld => ?_)
   refine pu 0 85 (bz 12 1) ?_
   refine tu 1 86 (bz 12 3) hHeld ?_
   refine pu 2 87 (bz 12 7) ?_
   refine pu 3 88 (bz 12 15) ?_
   refine pu 5 90 (bz 12 47) ?_
   refine pu 6 91 (bz 12 111) ?_
   refine tu 7 92 (bz 12 239) hHeld ?_
   refine one_ (i := 4) (N := some 89) (bz 12 255) rfl rfl (by kernel_rfl) (by decide) (fun K hK => ?_)
   refine goes_ Try.func55 (by kernel_rfl) rfl #[.slice A21 q.length c21,.int .i64 (n : Int)] (by rfl) rfl rfl (by (try simp only [List.map_toArray,List.map_cons,List.map_nil]);first|done|rfl) ?_
   refine (poly_Coefficient.calls A21 c21 q (n : Int) (cf n) _ (by first|exact (Kd.R_reads' R21.out).2.2|exact (Kd.R_reads' (Kd.R_drew R21.out)).2.2) (Kd.R_reads' R21.out).2.1 FC.out).mono ?_
   rintro e w108 ⟨rfl,hd⟩
   have hb := drawn_belowT hd;clear hd
   have n_ := Aside0.mk (below_step (below_drew HB.out) hb)
   have nRZ := Aside0.mk (Kd.R_below (Kd.R_drew RZ.out) hb)
   have nR21 := Aside0.mk (Kd.R_below (Kd.R_drew R21.out) hb)
   have nR24 := Aside0.mk (Kd.R_below (Kd.R_drew R24.out) hb)
   have h_ := below_size hb;have nBS := Aside0.mk (Nat.le_trans BS.out h_);clear h_
   have nGM := Aside0.mk (blk_below (blk_drew GM.out) hb)
   have nLF := Aside0.mk (show LeftAt w108 _ _ _ _ from blk_below (blk_drew LF.out) hb)
   clear HB GM LF RZ R21 R24 BS
   have HB := n_
   have GM := nGM
   have LF := nLF
   have BS := nBS
   have RZ := nRZ
   have R21 := nR21
   have R24 := nR24
   clear hb n_ nGM nLF nRZ nR21 nR24 nBS
   refine ⟨_,rfl,?_⟩
   clear hHeld
   refine hK.out _ _ ⟨(blk_cell GM.out 0).trans rfl,(blk_cell GM.out 1).trans rfl,(blk_cell GM.out 2).trans rfl⟩ (fun hHeld => ?_)
   clear hK K
   refine nm 89 ?_
   refine one_ (i := 8) (N := some 93) (bz 12 511) rfl rfl (by kernel_rfl) (by decide) (fun K hK => ?_)
   refine goesC_ Try.func79 (by kernel_rfl) rfl #[.pointer (some ⟨g1,0,none⟩)] #[.int .i64 (T : Int)] (by rfl) rfl rfl (by rfl) (by (try simp only [List.map_toArray,List.map_cons,List.map_nil]);first|done|rfl) ?_
   show Calls Try.prog 79 #[.int .i64 (T : Int),.pointer (some ⟨g1,0,none⟩)] _ _
   refine (take_walk g1 AL xs.length cL T _ (by exact LF.out) HCL.out XL.out).mono ?_
   rintro e w109 ⟨rfl,hl,ho,hbw⟩
   have n_ := Aside0.mk (hbw _ _ G1W.out (HB.out))
   have nRZ := Aside0.mk (low_far RZ.out ho)
   have nR21 := Aside0.mk (low_far R21.out ho)
   have nR24 := Aside0.mk (high_far R24.out LB.out ho)
   have h_ := (hbw 0 _ (Nat.zero_le _) (Below.refl 0 _)).size;have nBS := Aside0.mk (Nat.le_trans BS.out h_);clear h_
   have nGM := Aside0.mk ((ho gm NE.out).trans GM.out)
   have nLF := Aside0.mk hl
   clear HB GM LF RZ R21 R24 BS
   have HB := n_
   have GM := nGM
   have LF := nLF
   have BS := nBS
   have RZ := nRZ
   have R21 := nR21
   have R24 := nR24
   clear hl ho hbw n_ nGM nLF nRZ nR21 nR24 nBS
   refine ⟨_,congrArg Ending.returned EY.out,?_⟩
   clear hHeld
   refine hK.out _ _ ⟨(blk_cell GM.out 0).trans rfl,(blk_cell GM.out 1).trans rfl,(blk_cell GM.out 2).trans rfl⟩ (fun hHeld => ?_)
   clear hK K
   refine nm 93 ?_
   refine one_ (i := 9) (N := some 94) (bz 12 1023) rfl rfl (by kernel_rfl) (by decide) (fun K hK => ?_)
   refine goes_ Try.func44 (by kernel_rfl) rfl #[.agg #[.int .u64 p,.int .i64 (T : Int),.slice Az z.length cz],.int .u64 (cf n),.slice AL y.length cL] (by rfl) rfl rfl (by (try simp only [List.map_toArray,List.map_cons,List.map_nil]);first|done|rfl) ?_
   refine (tapeshift_mover_by.calls (kn m) p (T : Int) Az cz z (cf n) AL cL y (nH n) _ (by first|exact (Kd.R_reads' RZ.out).2.2|exact (Kd.R_reads' (Kd.R_drew RZ.out)).2.2) (Kd.R_reads' RZ.out).2.1 (by first|exact Kd.C_below CY.out HB.out|exact Kd.C_below CY.out (below_drew HB.out)) (by rw [YL.out];exact Nat.le_trans XL.out HCL.out) FNm.out).mono ?_
   rintro e w110 ⟨v94,rfl,ho,hb⟩
   have nR94_ := Aside0.mk (R_any ho)
   obtain ⟨A94,c94,e_⟩ := Kd.R_slice ho
   subst e_
   clear ho
   have n_ := Aside0.mk (below_step (HB.out) hb)
   have nRZ := Aside0.mk (Kd.R_below RZ.out hb)
   have nR21 := Aside0.mk (Kd.R_below R21.out hb)
   have nR24 := Aside0.mk (Kd.R_below R24.out hb)
   have h_ := below_size hb;have nBS := Aside0.mk (Nat.le_trans BS.out h_);clear h_
   have nGM := Aside0.mk (blk_below GM.out hb)
   have nLF := Aside0.mk (show LeftAt w110 _ _ _ _ from blk_below LF.out hb)
   clear HB GM LF RZ R21 R24 BS
   have HB := n_
   have GM := nGM
   have LF := nLF
   have BS := nBS
   have RZ := nRZ
   have R21 := nR21
   have R24 := nR24
   clear hb n_ nGM nLF nRZ nR21 nR24 nBS
   have R94 := nR94_
   clear nR94_
   refine ⟨_,rfl,?_⟩
   clear hHeld
   refine hK.out _ _ ⟨(blk_cell GM.out 0).trans rfl,(blk_cell GM.out 1).trans rfl,(blk_cell GM.out 2).trans rfl⟩ (fun hHeld => ?_)
   clear hK K
   refine nm 94 ?_
   refine one_ (i := 10) (N := some 95) (bz 12 2047) rfl rfl (by kernel_rfl) (by decide) (fun K hK => ?_)
   refine Kd.R_append_rows_step (Kd.int .u64) (w0 := w) w.heap.size (by rfl) (.tmp 85) (.tmp 94) 26 22 (.int .u64 0) 8 rfl Try.underlying26 info22 rfl (by decide) (by omega) u24 (na ++ nb ++ catF nH m) (nH n) A94 (nH n).length c94 (fun k => B ≤ k) (fun _ => False) rfl rfl R24.out (Kd.R_reads' R94.out).2.2 (fun _ _ h => h) (fun _ hk => hk.elim) (fun k hk => Nat.le_trans BS.out hk) HB.out (below_size HB.out) LCAT.out ?_
   intro v95 w111 ho hb hg hat
   have nBS := Aside0.mk (Nat.le_trans BS.out hg.size)
   have nGM := Aside0.mk (blk_grown GM.out hg (low_not R24.out GB.out))
   have nLF := Aside0.mk (show LeftAt w111 _ _ _ _ from blk_grown LF.out hg (low_not R24.out LB.out))
   have nRZ := Aside0.mk (low_grown RZ.out R24.out hg)
   have nR21 := Aside0.mk (low_grown R21.out R24.out hg)
   have n_ := Aside0.mk ho
   have nHB := Aside0.mk hb
   clear HB GM LF BS R24 RZ R21
   have HB := nHB;have GM := nGM;have LF := nLF;have BS := nBS;have R24 := n_
   have RZ := nRZ
   have R21 := nR21
   clear ho hb hg hat n_ nHB nGM nLF nBS nRZ nR21
   clear hHeld
   refine hK.out _ _ ⟨(blk_cell GM.out 0).trans rfl,(blk_cell GM.out 1).trans rfl,(blk_cell GM.out 2).trans rfl⟩ (fun hHeld => ?_)
   clear hK K
   refine nm 95 ?_
   refine pu 11 24 (bz 12 4095) ?_
   clear hHeld
   refine done_ (by kernel_rfl) ?_
   rw [ECAT.out] at R24
   have m0 : w111.cell? ⟨gm,0,none⟩ = some (.int .u64 p) := (blk_cell GM.out 0).trans rfl;have m1 : w111.cell? ⟨gm,1,none⟩ = some (.int .i64 (T : Int)) := (blk_cell GM.out 1).trans rfl;have m2 : w111.cell? ⟨gm,2,none⟩ = some (.slice Az z.length cz) := (blk_cell GM.out 2).trans rfl
   clear R94
   go_wp2
   go_roundg (T - n)
   case measure => have := HK.out;omega
   case rel => exact ⟨n + 1,m + 1,by rw [show wrap64 ((n : Int) + 1) = ((n + 1 : Nat) : Int) from by have := HT_.out;rw [wrap64];omega],⟨by have := HK.out;omega⟩,⟨by have := HM.out;omega⟩,R24,RZ,R21,BS,GM,⟨left_step XS.out HCL.out XL.out CL.out LF.out (by have := Nat.add_mul m 1 T;omega)⟩,HB⟩
  ·have q1 : decide ((n : Int) ≤ (T : Int)) = false := decide_eq_false (by omega)
   have q2 : decide (n ≤ T) = false := decide_eq_false hlt
   have hmT : m = T := by have := HK.out;omega
   rw [hmT] at R24
   obtain ⟨O,hO⟩ : ∃ y,y = T * (T + 1) / 2 := ⟨_,rfl⟩
   have NO := Aside0.mk hO
   clear hO
   have HO := Aside0.mk (show (T = 1 ∧ O = 1 ∧ rests.length = 4) ∨ (T = 2 ∧ O = 3 ∧ rests.length = 15) from tri_rest HT_.out NO.out LR_.out)
   have hM := ()
   have hQ : wrap64 ((wrap64 ((T : Int) * ((T : Int) + 1))).tdiv 2) = (O : Int) := by rcases HO.out with h|h <;> rw [h.1,h.2.1] <;> kernel_rfl
   go_wp2_with (first
    | (go_at_call 50;(with_reducible refine (cutter_walk Ar rests.length cr _).mono ?_);rintro e w111 ⟨g2,rfl,hge,hl,hb⟩;have NE2 := Aside0.mk (show gm ≠ g2 from Nat.ne_of_lt (Nat.lt_of_lt_of_le (blk_lt GM.out) hge));have G2W := Aside0.mk (Nat.le_trans (below_size HB.out) hge);have LF := Aside0.mk hl;have n_ := Aside0.mk (below_step HB.out hb);have kZ_ := Aside0.mk (Kd.R_below (R_before RZ.out hge) hb);have kQ_ := Aside0.mk (Kd.R_below (R_before R21.out hge) hb);have kO_ := Aside0.mk (Kd.R_below (R_before R24.out hge) hb);have j_ := Aside0.mk (blk_below GM.out hb);clear HB RZ R21 R24 GM LL BS;have HB := n_;have RZ := kZ_;have R21 := kQ_;have R24 := kO_;have GM := j_;clear n_ kZ_ kQ_ kO_ j_ hge hl hb m0 m1 m2 BW GB LB NE G1W HK HM))
   clear hM hQ
   obtain ⟨y1,hy1⟩ : ∃ y,y = rests.take O := ⟨_,rfl⟩
   obtain ⟨y2,hy2⟩ : ∃ y,y = (rests.drop O).take O := ⟨_,rfl⟩
   have hl1 : y1.length = O := by rw [hy1,List.length_take];have := HO.out;omega
   have hl2 : y2.length = O := by rw [hy2,List.length_take,List.length_drop];have := HO.out;omega
   have C1 := Aside0.mk (show Kd.C (Kd.int .u64) w Ar y1.length y1 by rw [hy1];exact Kd.C_take HRR_.out (by have := HO.out;omega))
   have C2 := Aside0.mk (show Kd.C (Kd.int .u64) w (dropA Ar cr O) y2.length y2 by rw [hy2];exact Kd.C_take (left_drop HRR_.out (m := O) (by have := HO.out;omega) hcr) (by rw [List.length_drop];have := HO.out;omega))
   have E1 := Aside0.mk (show Value.slice Ar O cr = Value.slice Ar y1.length cr by rw [hl1])
   have E2 := Aside0.mk (show Value.slice (dropA Ar cr O) O (cr - O) = Value.slice (dropA Ar cr O) y2.length (cr - O) by rw [hl2])
   have L1 := Aside0.mk (show y1.length ≤ cr by rw [hl1];have := HO.out;omega)
   have L2_ := Aside0.mk (show y2.length ≤ cr - O by rw [hl2];have := HO.out;omega)
   have F1 := Aside0.mk (show tapeshift_mover_rest.f p (T : Int) z da y1 = some ra by rw [hy1,NO.out];exact FRA_.out)
   have F2 := Aside0.mk (show tapeshift_mover_rest.f p (T : Int) z db y2 = some rb by rw [hy2,NO.out];exact FRB_.out)
   clear hy1 hy2 hl1 hl2
   go_wp2
   refine start_ (n := 7) (S := (fun w' => w'.cell? ⟨gm,0,none⟩ = some (.int .u64 p) ∧ w'.cell? ⟨gm,1,none⟩ = some (.int .i64 (T : Int)) ∧ w'.cell? ⟨gm,2,none⟩ = some (.slice Az z.length cz))) (ds := []) (bz 7 0) (by kernel_rfl) rfl rfl ⟨(blk_cell GM.out 0).trans rfl,(blk_cell GM.out 1).trans rfl,(blk_cell GM.out 2).trans rfl⟩ (fun hHeld => ?_)
   refine tu 0 105 (bz 7 1) hHeld ?_
   refine pu 1 106 (bz 7 3) ?_
   refine pu 2 107 (bz 7 7) ?_
   refine pu 3 108 (bz 7 15) ?_
   refine one_ (i := 4) (N := some 109) (bz 7 31) rfl rfl (by kernel_rfl) (by decide) (fun K hK => ?_)
   refine goesC_ Try.func79 (by kernel_rfl) rfl #[.pointer (some ⟨g2,0,none⟩)] #[.int .i64 (O : Int)] (by rfl) rfl rfl (by rfl) (by (try simp only [List.map_toArray,List.map_cons,List.map_nil]);first|done|rfl) ?_
   show Calls Try.prog 79 #[.int .i64 (O : Int),.pointer (some ⟨g2,0,none⟩)] _ _
   refine (take_walk g2 Ar rests.length cr O _ (by exact blk_drew LF.out) hcr (by have := HO.out;omega)).mono ?_
   rintro e w112 ⟨rfl,hl,ho,hbw⟩
   have n_ := Aside0.mk (hbw _ _ G2W.out (below_drew HB.out))
   have nRZ := Aside0.mk (R_far (Kd.R_drew RZ.out) ho)
   have nR21 := Aside0.mk (R_far (Kd.R_drew R21.out) ho)
   have nR24 := Aside0.mk (R_far (Kd.R_drew R24.out) ho)
   have nGM := Aside0.mk ((ho gm NE2.out).trans (blk_drew GM.out))
   have nLF := Aside0.mk hl
   clear HB GM LF RZ R21 R24
   have HB := n_
   have GM := nGM
   have LF := nLF
   have RZ := nRZ
   have R21 := nR21
   have R24 := nR24
   clear hl ho hbw n_ nGM nLF nRZ nR21 nR24
   refine ⟨_,congrArg Ending.returned E1.out,?_⟩
   clear hHeld
   refine hK.out _ _ ⟨(blk_cell GM.out 0).trans rfl,(blk_cell GM.out 1).trans rfl,(blk_cell GM.out 2).trans rfl⟩ (fun hHeld => ?_)
   clear hK K
   refine nm 109 ?_
   refine one_ (i := 5) (N := some 110) (bz 7 63) rfl rfl (by kernel_rfl) (by decide) (fun K hK => ?_)
   refine goes_ Try.func45 (by kernel_rfl) rfl #[.agg #[.int .u64 p,.int .i64 (T : Int),.slice Az z.length cz],.int .u64 da,.slice Ar y1.length cr] (by rfl) rfl rfl (by (try simp only [List.map_toArray,List.map_cons,List.map_nil]);first|done|rfl) ?_
   refine (tapeshift_mover_rest.calls p (T : Int) Az cz z da Ar cr y1 ra _ (by first|exact (Kd.R_reads' RZ.out).2.2|exact (Kd.R_reads' (Kd.R_drew RZ.out)).2.2) (Kd.R_reads' RZ.out).2.1 (by first|exact Kd.C_below C1.out HB.out|exact Kd.C_below C1.out (below_drew HB.out)) L1.out F1.out).mono ?_
   rintro e w113 ⟨v27,rfl,ho,hb⟩
   obtain ⟨B2,hB_⟩ : ∃ y,y = w112.heap.size := ⟨_,rfl⟩
   have NB := Aside0.mk hB_
   clear hB_
   have BW := Aside0.mk (show w.heap.size ≤ B2 by rw [NB.out];exact below_size HB.out)
   have GB := Aside0.mk (show gm < B2 by rw [NB.out];exact blk_lt GM.out)
   have LB := Aside0.mk (show g2 < B2 by rw [NB.out];exact blk_lt LF.out)
   have nR27_ := Aside0.mk (show Kd.R (Kd.int .u64) 22 _ w.heap.size (fun k => B2 ≤ k) _ _ by rw [NB.out];exact R_highs ho (below_size HB.out))
   clear ho
   have n_ := Aside0.mk (show Kd.R (Kd.int .u64) 22 _ w.heap.size (fun k => k ≠ g2 ∧ k < B2) _ _ by rw [NB.out];exact R_lows RZ.out)
   clear RZ
   have RZ := n_
   clear n_
   have n_ := Aside0.mk (show Kd.R (Kd.int .u64) 22 _ w.heap.size (fun k => k ≠ g2 ∧ k < B2) _ _ by rw [NB.out];exact R_lows R21.out)
   clear R21
   have R21 := n_
   clear n_
   have n_ := Aside0.mk (show Kd.R (Kd.int .u64) 22 _ w.heap.size (fun k => k ≠ g2 ∧ k < B2) _ _ by rw [NB.out];exact R_lows R24.out)
   clear R24
   have R24 := n_
   clear n_
   have BS := Aside0.mk (show B2 ≤ w112.heap.size by rw [NB.out];exact Nat.le_refl _)
   clear NB
   have n_ := Aside0.mk (below_step (HB.out) hb)
   have nRZ := Aside0.mk (Kd.R_below RZ.out hb)
   have nR21 := Aside0.mk (Kd.R_below R21.out hb)
   have nR24 := Aside0.mk (Kd.R_below R24.out hb)
   have h_ := below_size hb;have nBS := Aside0.mk (Nat.le_trans BS.out h_);clear h_
   have nGM := Aside0.mk (blk_below GM.out hb)
   have nLF := Aside0.mk (show LeftAt w113 _ _ _ _ from blk_below LF.out hb)
   clear HB GM LF RZ R21 R24 BS
   have HB := n_
   have GM := nGM
   have LF := nLF
   have BS := nBS
   have RZ := nRZ
   have R21 := nR21
   have R24 := nR24
   clear hb n_ nGM nLF nRZ nR21 nR24 nBS
   have R27 := nR27_
   clear nR27_
   refine ⟨_,rfl,?_⟩
   clear hHeld
   refine hK.out _ _ ⟨(blk_cell GM.out 0).trans rfl,(blk_cell GM.out 1).trans rfl,(blk_cell GM.out 2).trans rfl⟩ (fun hHeld => ?_)
   clear hK K
   refine nm 110 ?_
   refine pu 6 27 (bz 7 127) ?_
   clear hHeld
   refine done_ (by kernel_rfl) ?_
   go_wp2
   refine start_ (n := 9) (S := (fun w' => w'.cell? ⟨gm,0,none⟩ = some (.int .u64 p) ∧ w'.cell? ⟨gm,1,none⟩ = some (.int .i64 (T : Int)) ∧ w'.cell? ⟨gm,2,none⟩ = some (.slice Az z.length cz))) (ds := []) (bz 9 0) (by kernel_rfl) rfl rfl ⟨(blk_cell GM.out 0).trans rfl,(blk_cell GM.out 1).trans rfl,(blk_cell GM.out 2).trans rfl⟩ (fun hHeld => ?_)
   refine pu 0 111 (bz 9 1) ?_
   refine tu 1 112 (bz 9 3) hHeld ?_
   refine pu 2 113 (bz 9 7) ?_
   refine pu 3 114 (bz 9 15) ?_
   refine pu 4 115 (bz 9 31) ?_
   refine one_ (i := 5) (N := some 116) (bz 9 63) rfl rfl (by kernel_rfl) (by decide) (fun K hK => ?_)
   refine goesC_ Try.func79 (by kernel_rfl) rfl #[.pointer (some ⟨g2,0,none⟩)] #[.int .i64 (O : Int)] (by rfl) rfl rfl (by rfl) (by (try simp only [List.map_toArray,List.map_cons,List.map_nil]);first|done|rfl) ?_
   show Calls Try.prog 79 #[.int .i64 (O : Int),.pointer (some ⟨g2,0,none⟩)] _ _
   refine (take_walk g2 (dropA Ar cr O) (rests.length - O) (cr - O) O _ (by exact blk_drew LF.out) (by have := HO.out;omega) (by have := HO.out;omega)).mono ?_
   rintro e w114 ⟨rfl,hl,ho,hbw⟩
   have n_ := Aside0.mk (hbw _ _ G2W.out (below_drew HB.out))
   have nRZ := Aside0.mk (low_far (Kd.R_drew RZ.out) ho)
   have nR21 := Aside0.mk (low_far (Kd.R_drew R21.out) ho)
   have nR24 := Aside0.mk (low_far (Kd.R_drew R24.out) ho)
   have nR27 := Aside0.mk (high_far (Kd.R_drew R27.out) LB.out ho)
   have h_ := (hbw 0 _ (Nat.zero_le _) (Below.refl 0 _)).size;have nBS := Aside0.mk (Nat.le_trans BS.out h_);clear h_
   have nGM := Aside0.mk ((ho gm NE2.out).trans (blk_drew GM.out))
   have nLF := Aside0.mk hl
   clear HB GM LF RZ R21 R24 R27 BS
   have HB := n_
   have GM := nGM
   have LF := nLF
   have BS := nBS
   have RZ := nRZ
   have R21 := nR21
   have R24 := nR24
   have R27 := nR27
   clear hl ho hbw n_ nGM nLF nRZ nR21 nR24 nR27 nBS
   refine ⟨_,congrArg Ending.returned E2.out,?_⟩
   clear hHeld
   refine hK.out _ _ ⟨(blk_cell GM.out 0).trans rfl,(blk_cell GM.out 1).trans rfl,(blk_cell GM.out 2).trans rfl⟩ (fun hHeld => ?_)
   clear hK K
   refine nm 116 ?_
   refine one_ (i := 6) (N := some 117) (bz 9 127) rfl rfl (by kernel_rfl) (by decide) (fun K hK => ?_)
   refine goes_ Try.func45 (by kernel_rfl) rfl #[.agg #[.int .u64 p,.int .i64 (T : Int),.slice Az z.length cz],.int .u64 db,.slice (dropA Ar cr O) y2.length (cr - O)] (by rfl) rfl rfl (by (try simp only [List.map_toArray,List.map_cons,List.map_nil]);first|done|rfl) ?_
   refine (tapeshift_mover_rest.calls p (T : Int) Az cz z db (dropA Ar cr O) (cr - O) y2 rb _ (by first|exact (Kd.R_reads' RZ.out).2.2|exact (Kd.R_reads' (Kd.R_drew RZ.out)).2.2) (Kd.R_reads' RZ.out).2.1 (by first|exact Kd.C_below C2.out HB.out|exact Kd.C_below C2.out (below_drew HB.out)) L2_.out F2.out).mono ?_
   rintro e w115 ⟨v117,rfl,ho,hb⟩
   have nR117_ := Aside0.mk (R_any ho)
   obtain ⟨A117,c117,e_⟩ := Kd.R_slice ho
   subst e_
   clear ho
   have n_ := Aside0.mk (below_step (HB.out) hb)
   have nRZ := Aside0.mk (Kd.R_below RZ.out hb)
   have nR21 := Aside0.mk (Kd.R_below R21.out hb)
   have nR24 := Aside0.mk (Kd.R_below R24.out hb)
   have nR27 := Aside0.mk (Kd.R_below R27.out hb)
   have h_ := below_size hb;have nBS := Aside0.mk (Nat.le_trans BS.out h_);clear h_
   have nGM := Aside0.mk (blk_below GM.out hb)
   have nLF := Aside0.mk (show LeftAt w115 _ _ _ _ from blk_below LF.out hb)
   clear HB GM LF RZ R21 R24 R27 BS
   have HB := n_
   have GM := nGM
   have LF := nLF
   have BS := nBS
   have RZ := nRZ
   have R21 := nR21
   have R24 := nR24
   have R27 := nR27
   clear hb n_ nGM nLF nRZ nR21 nR24 nR27 nBS
   have R117 := nR117_
   clear nR117_
   refine ⟨_,rfl,?_⟩
   clear hHeld
   refine hK.out _ _ ⟨(blk_cell GM.out 0).trans rfl,(blk_cell GM.out 1).trans rfl,(blk_cell GM.out 2).trans rfl⟩ (fun hHeld => ?_)
   clear hK K
   refine nm 117 ?_
   refine one_ (i := 7) (N := some 118) (bz 9 255) rfl rfl (by kernel_rfl) (by decide) (fun K hK => ?_)
   refine Kd.R_append_rows_step (Kd.int .u64) (w0 := w) w.heap.size (by rfl) (.tmp 111) (.tmp 117) 26 22 (.int .u64 0) 8 rfl Try.underlying26 info22 rfl (by decide) (by omega) v27 (ra) (rb) A117 (rb).length c117 (fun k => B2 ≤ k) (fun _ => False) rfl rfl R27.out (Kd.R_reads' R117.out).2.2 (fun _ _ h => h) (fun _ hk => hk.elim) (fun k hk => Nat.le_trans BS.out hk) HB.out (below_size HB.out) (by have := LRA_.out;have := LRB_.out;omega) ?_
   intro v118 w116 ho hb hg hat
   have nBS := Aside0.mk (Nat.le_trans BS.out hg.size)
   have nGM := Aside0.mk (blk_grown GM.out hg (low_not R27.out GB.out))
   have nLF := Aside0.mk (show LeftAt w116 _ _ _ _ from blk_grown LF.out hg (low_not R27.out LB.out))
   have nRZ := Aside0.mk (low_grown RZ.out R27.out hg)
   have nR21 := Aside0.mk (low_grown R21.out R27.out hg)
   have nR24 := Aside0.mk (low_grown R24.out R27.out hg)
   have n_ := Aside0.mk ho
   have nHB := Aside0.mk hb
   clear HB GM LF BS R27 RZ R21 R24
   have HB := nHB;have GM := nGM;have LF := nLF;have BS := nBS;have R27 := n_
   have RZ := nRZ
   have R21 := nR21
   have R24 := nR24
   clear ho hb hg hat n_ nHB nGM nLF nBS nRZ nR21 nR24
   clear hHeld
   refine hK.out _ _ ⟨(blk_cell GM.out 0).trans rfl,(blk_cell GM.out 1).trans rfl,(blk_cell GM.out 2).trans rfl⟩ (fun hHeld => ?_)
   clear hK K
   refine nm 118 ?_
   refine pu 8 27 (bz 9 511) ?_
   clear hHeld
   refine done_ (by kernel_rfl) ?_
   clear R117 C1 C2 E1 E2 L1 L2_ F1 F2
   have LL := Aside0.mk (show LeftL w w116 g2 (rests.drop ((0 + 2) * O)) from by exact left_start HRR_.out hcr (by have := HO.out;omega) LF.out (by omega))
   have R27_ := R27;clear R27
   have R27 := Aside0.mk (show Kd.R (Kd.int .u64) 22 w116 w.heap.size (fun k => B2 ≤ k) v118 (ra ++ rb ++ catF nR 0) by have h := R27_.out;simpa [catF] using h)
   clear R27_ HRR_
   go_wp2
   go_loopg [27,28] T (fun kq v27 v28 w' => ∃ n m : Nat,v28 = .int .i64 (n : Int) ∧ Aside0 (kq + n = T + 1) ∧ Aside0 (n = m + 1) ∧ Aside0 (Kd.R (Kd.int .u64) 22 w' w.heap.size (fun k => B2 ≤ k) v27 (ra ++ rb ++ catF nR m)) ∧ Aside0 (Kd.R (Kd.int .u64) 22 w' w.heap.size (fun k => k ≠ g2 ∧ k < B2) (.slice Az z.length cz) (z)) ∧ Aside0 (Kd.R (Kd.int .u64) 22 w' w.heap.size (fun k => k ≠ g2 ∧ k < B2) (.slice A21 q.length c21) (q)) ∧ Aside0 (Kd.R (Kd.int .u64) 22 w' w.heap.size (fun k => k ≠ g2 ∧ k < B2) (u24) (na ++ nb ++ catF nH T)) ∧ Aside0 (B2 ≤ w'.heap.size) ∧ Aside0 (w'.heap[gm]? = some (.cells #[.int .u64 p,.int .i64 (T : Int),.slice Az z.length cz] 59 (0,0))) ∧ Aside0 (LeftL w w' g2 (rests.drop ((m + 2) * O))) ∧ Aside0 (Below w.heap.size w w'))
   case atStart => exact ⟨1,0,rfl,⟨by omega⟩,⟨rfl⟩,R27,RZ,R21,R24,BS,GM,LL,HB⟩
   case round =>
    clear R27 R24 RZ R21 BS GM LF LL HB hlt q1 q2
    obtain ⟨n,m,rfl,HK,HM,R27,RZ,R21,R24,BS,GM,LL,HB⟩ := hrel
    have hmn := HM.out
    have m0 : wr.cell? ⟨gm,0,none⟩ = some (.int .u64 p) := (blk_cell GM.out 0).trans rfl;have m1 : wr.cell? ⟨gm,1,none⟩ = some (.int .i64 (T : Int)) := (blk_cell GM.out 1).trans rfl;have m2 : wr.cell? ⟨gm,2,none⟩ = some (.slice Az z.length cz) := (blk_cell GM.out 2).trans rfl
    by_cases hlt : n ≤ T
    ·have q1 : decide ((n : Int) ≤ (T : Int)) = true := decide_eq_true (by omega)
     have q2 : decide (n ≤ T) = true := decide_eq_true hlt
     have q3 : ((n : Int) ≤ (T : Int)) = True := eq_true (by omega)
     have hmT := tri_len2 (O := O) (show m ≤ T by omega)
     obtain ⟨xs,hxs⟩ : ∃ y,y = rests.drop ((m + 2) * O) := ⟨_,rfl⟩
     rw [← hxs] at LL
     obtain ⟨AL,cL,lf,cl,hcl⟩ := LL.out
     have LF := Aside0.mk lf;have CL := Aside0.mk cl;have HCL := Aside0.mk hcl
     clear lf cl hcl LL
     have hxl : O ≤ xs.length := by rw [hxs,List.length_drop];have h1 := LR_.out;rw [← NO.out] at h1;omega
     have XL := Aside0.mk hxl
     have XS := Aside0.mk hxs
     obtain ⟨y,hy⟩ : ∃ y,y = xs.take O := ⟨_,rfl⟩
     have hyl : y.length = O := by rw [hy,List.length_take];omega
     have EY := Aside0.mk (show Value.slice AL O cL = Value.slice AL y.length cL by rw [hyl])
     have YL := Aside0.mk hyl
     have CY := Aside0.mk (show Kd.C (Kd.int .u64) w AL y.length y by rw [hy];exact Kd.C_take CL.out hxl)
     have LCAT := Aside0.mk (show ((ra ++ rb ++ catF nR m).length + (nR n).length) * 8 ≤ 140737488355328 by have h1 := catF_len LNR_.out m (by omega);have h2 := LNR_.out n (by omega);have h3 := LRA_.out;have h4 := LRB_.out;have h5 := HT_.out;simp only [List.length_append];omega)
     have FC := Aside0.mk (FC_.out n hlt)
     have FNm := Aside0.mk (show tapeshift_mover_rest.f p (T : Int) z (cf n) y = some (nR n) by rw [hy,hxs,hmn,NO.out];exact FRN_.out m (by omega))
     have ECAT := Aside0.mk (show ra ++ rb ++ catF nR m ++ nR n = ra ++ rb ++ catF nR (m + 1) by rw [hmn];simp [catF,List.append_assoc])
     clear hmT hxs hy hyl hmn hxl
     go_wp2
     refine start_ (n := 11) (S := (fun w' => w'.cell? ⟨gm,0,none⟩ = some (.int .u64 p) ∧ w'.cell? ⟨gm,1,none⟩ = some (.int .i64 (T : Int)) ∧ w'.cell? ⟨gm,2,none⟩ = some (.slice Az z.length cz))) (ds := []) (bz 11 0) (by kernel_rfl) rfl rfl ⟨(blk_cell GM.out 0).trans rfl,(blk_cell GM.out 1).trans rfl,(blk_cell GM.out 2).trans rfl⟩ (fun hHeld => ?_)
     refine pu 0 125 (bz 11 1) ?_
     refine tu 1 126 (bz 11 3) hHeld ?_
     refine pu 2 127 (bz 11 7) ?_
     refine pu 3 128 (bz 11 15) ?_
     refine pu 5 130 (bz 11 47) ?_
     refine pu 6 131 (bz 11 111) ?_
     refine one_ (i := 4) (N := some 129) (bz 11 127) rfl rfl (by kernel_rfl) (by decide) (fun K hK => ?_)
     refine goes_ Try.func55 (by kernel_rfl) rfl #[.slice A21 q.length c21,.int .i64 (n : Int)] (by rfl) rfl rfl (by (try simp only [List.map_toArray,List.map_cons,List.map_nil]);first|done|rfl) ?_
     refine (poly_Coefficient.calls A21 c21 q (n : Int) (cf n) _ (by first|exact (Kd.R_reads' R21.out).2.2|exact (Kd.R_reads' (Kd.R_drew R21.out)).2.2) (Kd.R_reads' R21.out).2.1 FC.out).mono ?_
     rintro e w117 ⟨rfl,hd⟩
     have hb := drawn_belowT hd;clear hd
     have n_ := Aside0.mk (below_step (below_drew HB.out) hb)
     have nRZ := Aside0.mk (Kd.R_below (Kd.R_drew RZ.out) hb)
     have nR21 := Aside0.mk (Kd.R_below (Kd.R_drew R21.out) hb)
     have nR24 := Aside0.mk (Kd.R_below (Kd.R_drew R24.out) hb)
     have nR27 := Aside0.mk (Kd.R_below (Kd.R_drew R27.out) hb)
     have h_ := below_size hb;have nBS := Aside0.mk (Nat.le_trans BS.out h_);clear h_
     have nGM := Aside0.mk (blk_below (blk_drew GM.out) hb)
     have nLF := Aside0.mk (show LeftAt w117 _ _ _ _ from blk_below (blk_drew LF.out) hb)
     clear HB GM LF RZ R21 R24 R27 BS
     have HB := n_
     have GM := nGM
     have LF := nLF
     have BS := nBS
     have RZ := nRZ
     have R21 := nR21
     have R24 := nR24
     have R27 := nR27
     clear hb n_ nGM nLF nRZ nR21 nR24 nR27 nBS
     refine ⟨_,rfl,?_⟩
     clear hHeld
     refine hK.out _ _ ⟨(blk_cell GM.out 0).trans rfl,(blk_cell GM.out 1).trans rfl,(blk_cell GM.out 2).trans rfl⟩ (fun hHeld => ?_)
     clear hK K
     refine nm 129 ?_
     refine one_ (i := 7) (N := some 132) (bz 11 255) rfl rfl (by kernel_rfl) (by decide) (fun K hK => ?_)
     refine goesC_ Try.func79 (by kernel_rfl) rfl #[.pointer (some ⟨g2,0,none⟩)] #[.int .i64 (O : Int)] (by rfl) rfl rfl (by rfl) (by (try simp only [List.map_toArray,List.map_cons,List.map_nil]);first|done|rfl) ?_
     show Calls Try.prog 79 #[.int .i64 (O : Int),.pointer (some ⟨g2,0,none⟩)] _ _
     refine (take_walk g2 AL xs.length cL O _ (by exact LF.out) HCL.out XL.out).mono ?_
     rintro e w118 ⟨rfl,hl,ho,hbw⟩
     have n_ := Aside0.mk (hbw _ _ G2W.out (HB.out))
     have nRZ := Aside0.mk (low_far RZ.out ho)
     have nR21 := Aside0.mk (low_far R21.out ho)
     have nR24 := Aside0.mk (low_far R24.out ho)
     have nR27 := Aside0.mk (high_far R27.out LB.out ho)
     have h_ := (hbw 0 _ (Nat.zero_le _) (Below.refl 0 _)).size;have nBS := Aside0.mk (Nat.le_trans BS.out h_);clear h_
     have nGM := Aside0.mk ((ho gm NE2.out).trans GM.out)
     have nLF := Aside0.mk hl
     clear HB GM LF RZ R21 R24 R27 BS
     have HB := n_
     have GM := nGM
     have LF := nLF
     have BS := nBS
     have RZ := nRZ
     have R21 := nR21
     have R24 := nR24
     have R27 := nR27
     clear hl ho hbw n_ nGM nLF nRZ nR21 nR24 nR27 nBS
     refine ⟨_,congrArg Ending.returned EY.out,?_⟩
     clear hHeld
     refine hK.out _ _ ⟨(blk_cell GM.out 0).trans rfl,(blk_cell GM.out 1).trans rfl,(blk_cell GM.out 2).trans rfl⟩ (fun hHeld => ?_)
     clear hK K
     refine nm 132 ?_
     refine one_ (i := 8) (N := some 133) (bz 11 511) rfl rfl (by kernel_rfl) (by decide) (fun K hK => ?_)
     refine goes_ Try.func45 (by kernel_rfl) rfl #[.agg #[.int .u64 p,.int .i64 (T : Int),.slice Az z.length cz],.int .u64 (cf n),.slice AL y.length cL] (by rfl) rfl rfl (by (try simp only [List.map_toArray,List.map_cons,List.map_nil]);first|done|rfl) ?_
     refine (tapeshift_mover_rest.calls p (T : Int) Az cz z (cf n) AL cL y (nR n) _ (by first|exact (Kd.R_reads' RZ.out).2.2|exact (Kd.R_reads' (Kd.R_drew RZ.out)).2.2) (Kd.R_reads' RZ.out).2.1 (by first|exact Kd.C_below CY.out HB.out|exact Kd.C_below CY.out (below_drew HB.out)) (by rw [YL.out];exact Nat.le_trans XL.out HCL.out) FNm.out).mono ?_
     rintro e w119 ⟨v133,rfl,ho,hb⟩
     have nR133_ := Aside0.mk (R_any ho)
     obtain ⟨A133,c133,e_⟩ := Kd.R_slice ho
     subst e_
     clear ho
     have n_ := Aside0.mk (below_step (HB.out) hb)
     have nRZ := Aside0.mk (Kd.R_below RZ.out hb)
     have nR21 := Aside0.mk (Kd.R_below R21.out hb)
     have nR24 := Aside0.mk (Kd.R_below R24.out hb)
     have nR27 := Aside0.mk (Kd.R_below R27.out hb)
     have h_ := below_size hb;have nBS := Aside0.mk (Nat.le_trans BS.out h_);clear h_
     have nGM := Aside0.mk (blk_below GM.out hb)
     have nLF := Aside0.mk (show LeftAt w119 _ _ _ _ from blk_below LF.out hb)
     clear HB GM LF RZ R21 R24 R27 BS
     have HB := n_
     have GM := nGM
     have LF := nLF
     have BS := nBS
     have RZ := nRZ
     have R21 := nR21
     have R24 := nR24
     have R27 := nR27
     clear hb n_ nGM nLF nRZ nR21 nR24 nR27 nBS
     have R133 := nR133_
     clear nR133_
     refine ⟨_,rfl,?_⟩
     clear hHeld
     refine hK.out _ _ ⟨(blk_cell GM.out 0).trans rfl,(blk_cell GM.out 1).trans rfl,(blk_cell GM.out 2).trans rfl⟩ (fun hHeld => ?_)
     clear hK K
     refine nm 133 ?_
     refine one_ (i := 9) (N := some 134) (bz 11 1023) rfl rfl (by kernel_rfl) (by decide) (fun K hK => ?_)
     refine Kd.R_append_rows_step (Kd.int .u64) (w0 := w) w.heap.size (by rfl) (.tmp 125) (.tmp 133) 26 22 (.int .u64 0) 8 rfl Try.underlying26 info22 rfl (by decide) (by omega) u27 (ra ++ rb ++ catF nR m) (nR n) A133 (nR n).length c133 (fun k => B2 ≤ k) (fun _ => False) rfl rfl R27.out (Kd.R_reads' R133.out).2.2 (fun _ _ h => h) (fun _ hk => hk.elim) (fun k hk => Nat.le_trans BS.out hk) HB.out (below_size HB.out) LCAT.out ?_
     intro v134 w120 ho hb hg hat
     have nBS := Aside0.mk (Nat.le_trans BS.out hg.size)
     have nGM := Aside0.mk (blk_grown GM.out hg (low_not R27.out GB.out))
     have nLF := Aside0.mk (show LeftAt w120 _ _ _ _ from blk_grown LF.out hg (low_not R27.out LB.out))
     have nRZ := Aside0.mk (low_grown RZ.out R27.out hg)
     have nR21 := Aside0.mk (low_grown R21.out R27.out hg)
     have nR24 := Aside0.mk (low_grown R24.out R27.out hg)
     have n_ := Aside0.mk ho
     have nHB := Aside0.mk hb
     clear HB GM LF BS R27 RZ R21 R24
     have HB := nHB;have GM := nGM;have LF := nLF;have BS := nBS;have R27 := n_
     have RZ := nRZ
     have R21 := nR21
     have R24 := nR24
     clear ho hb hg hat n_ nHB nGM nLF nBS nRZ nR21 nR24
     clear hHeld
     refine hK.out _ _ ⟨(blk_cell GM.out 0).trans rfl,(blk_cell GM.out 1).trans rfl,(blk_cell GM.out 2).trans rfl⟩ (fun hHeld => ?_)
     clear hK K
     refine nm 134 ?_
     refine pu 10 27 (bz 11 2047) ?_
     clear hHeld
     refine done_ (by kernel_rfl) ?_
     rw [ECAT.out] at R27
     clear m0 m1 m2
     have m0 : w120.cell? ⟨gm,0,none⟩ = some (.int .u64 p) := (blk_cell GM.out 0).trans rfl;have m1 : w120.cell? ⟨gm,1,none⟩ = some (.int .i64 (T : Int)) := (blk_cell GM.out 1).trans rfl;have m2 : w120.cell? ⟨gm,2,none⟩ = some (.slice Az z.length cz) := (blk_cell GM.out 2).trans rfl
     clear R133
     go_wp2
     go_roundg (T - n)
     case measure => have := HK.out;omega
     case rel => exact ⟨n + 1,m + 1,by rw [show wrap64 ((n : Int) + 1) = ((n + 1 : Nat) : Int) from by have := HT_.out;rw [wrap64];omega],⟨by have := HK.out;omega⟩,⟨by have := HM.out;omega⟩,R27,RZ,R21,R24,BS,GM,⟨left_step XS.out HCL.out XL.out CL.out LF.out (by have := Nat.add_mul m 1 O;have := Nat.add_mul (m + 1) 2 O;have := Nat.add_mul m 2 O;omega)⟩,HB⟩
    ·have q1 : decide ((n : Int) ≤ (T : Int)) = false := decide_eq_false (by omega)
     have q2 : decide (n ≤ T) = false := decide_eq_false hlt
     have hm : m = T := by have := HK.out;omega
     have hmT := tri_len2 (O := O) (show m ≤ T by exact Nat.le_of_eq hm)
     obtain ⟨xs,hxs⟩ : ∃ y,y = rests.drop ((m + 2) * O) := ⟨_,rfl⟩
     rw [← hxs] at LL
     obtain ⟨AL,cL,lf,cl,hcl⟩ := LL.out
     have LF := Aside0.mk lf;have CL := Aside0.mk cl;have HCL := Aside0.mk hcl
     clear lf cl hcl LL
     have hxl : O ≤ xs.length := by rw [hxs,List.length_drop];have h1 := LR_.out;rw [← NO.out] at h1;omega
     have XL := Aside0.mk hxl
     have XS := Aside0.mk hxs
     obtain ⟨y,hy⟩ : ∃ y,y = xs.take O := ⟨_,rfl⟩
     have hyl : y.length = O := by rw [hy,List.length_take];omega
     have EY := Aside0.mk (show Value.slice AL O cL = Value.slice AL y.length cL by rw [hyl])
     have YL := Aside0.mk hyl
     have CY := Aside0.mk (show Kd.C (Kd.int .u64) w AL y.length y by rw [hy];exact Kd.C_take CL.out hxl)
     have LCAT := Aside0.mk (show ((ra ++ rb ++ catF nR m).length + (nR 0).length) * 8 ≤ 140737488355328 by have h1 := catF_len LNR_.out m (by exact Nat.le_of_eq hm);have h2 := LNR_.out 0 (by omega);have h3 := LRA_.out;have h4 := LRB_.out;have h5 := HT_.out;simp only [List.length_append];omega)
     have FC := Aside0.mk (show poly_Coefficient.f q 0 = some (cf 0) from by exact FC_.out 0 (Nat.zero_le _))
     have FNm := Aside0.mk (show tapeshift_mover_rest.f p (T : Int) z (cf 0) y = some (nR 0) by rw [hy,hxs,hm,NO.out];exact FR0_.out)
     have HMT := Aside0.mk hm
     clear hmT hxs hy hyl hmn hxl hm
     go_wp2
     refine start_ (n := 12) (S := (fun w' => w'.cell? ⟨gm,0,none⟩ = some (.int .u64 p) ∧ w'.cell? ⟨gm,1,none⟩ = some (.int .i64 (T : Int)) ∧ w'.cell? ⟨gm,2,none⟩ = some (.slice Az z.length cz))) (ds := []) (bz 12 0) (by kernel_rfl) rfl rfl ⟨(blk_cell GM.out 0).trans rfl,(blk_cell GM.out 1).trans rfl,(blk_cell GM.out 2).trans rfl⟩ (fun hHeld => ?_)
     refine pu 0 135 (bz 12 1) ?_
     refine pu 1 136 (bz 12 3) ?_
     refine tu 2 137 (bz 12 7) hHeld ?_
     refine pu 3 138 (bz 12 15) ?_
     refine pu 5 140 (bz 12 47) ?_
     refine pu 6 141 (bz 12 111) ?_
     refine one_ (i := 4) (N := some 139) (bz 12 127) rfl rfl (by kernel_rfl) (by decide) (fun K hK => ?_)
     refine goes_ Try.func55 (by kernel_rfl) rfl #[.slice A21 q.length c21,.int .i64 0] (by rfl) rfl rfl (by (try simp only [List.map_toArray,List.map_cons,List.map_nil]);first|done|rfl) ?_
     refine (poly_Coefficient.calls A21 c21 q 0 (cf 0) _ (by first|exact (Kd.R_reads' R21.out).2.2|exact (Kd.R_reads' (Kd.R_drew R21.out)).2.2) (Kd.R_reads' R21.out).2.1 FC.out).mono ?_
     rintro e w121 ⟨rfl,hd⟩
     have hb := drawn_belowT hd;clear hd
     have n_ := Aside0.mk (below_step (below_drew HB.out) hb)
     have nRZ := Aside0.mk (Kd.R_below (Kd.R_drew RZ.out) hb)
     have nR21 := Aside0.mk (Kd.R_below (Kd.R_drew R21.out) hb)
     have nR24 := Aside0.mk (Kd.R_below (Kd.R_drew R24.out) hb)
     have nR27 := Aside0.mk (Kd.R_below (Kd.R_drew R27.out) hb)
     have h_ := below_size hb;have nBS := Aside0.mk (Nat.le_trans BS.out h_);clear h_
     have nGM := Aside0.mk (blk_below (blk_drew GM.out) hb)
     have nLF := Aside0.mk (show LeftAt w121 _ _ _ _ from blk_below (blk_drew LF.out) hb)
     clear HB GM LF RZ R21 R24 R27 BS
     have HB := n_
     have GM := nGM
     have LF := nLF
     have BS := nBS
     have RZ := nRZ
     have R21 := nR21
     have R24 := nR24
     have R27 := nR27
     clear hb n_ nGM nLF nRZ nR21 nR24 nR27 nBS
     refine ⟨_,rfl,?_⟩
     clear hHeld
     refine hK.out _ _ ⟨(blk_cell GM.out 0).trans rfl,(blk_cell GM.out 1).trans rfl,(blk_cell GM.out 2).trans rfl⟩ (fun hHeld => ?_)
     clear hK K
     refine nm 139 ?_
     refine one_ (i := 7) (N := some 142) (bz 12 255) rfl rfl (by kernel_rfl) (by decide) (fun K hK => ?_)
     refine goesC_ Try.func79 (by kernel_rfl) rfl #[.pointer (some ⟨g2,0,none⟩)] #[.int .i64 (O : Int)] (by rfl) rfl rfl (by rfl) (by (try simp only [List.map_toArray,List.map_cons,List.map_nil]);first|done|rfl) ?_
     show Calls Try.prog 79 #[.int .i64 (O : Int),.pointer (some ⟨g2,0,none⟩)] _ _
     refine (take_walk g2 AL xs.length cL O _ (by exact LF.out) HCL.out XL.out).mono ?_
     rintro e w122 ⟨rfl,hl,ho,hbw⟩
     have n_ := Aside0.mk (hbw _ _ G2W.out (HB.out))
     have nRZ := Aside0.mk (low_far RZ.out ho)
     have nR21 := Aside0.mk (low_far R21.out ho)
     have nR24 := Aside0.mk (low_far R24.out ho)
     have nR27 := Aside0.mk (high_far R27.out LB.out ho)
     have h_ := (hbw 0 _ (Nat.zero_le _) (Below.refl 0 _)).size;have nBS := Aside0.mk (Nat.le_trans BS.out h_);clear h_
     have nGM := Aside0.mk ((ho gm NE2.out).trans GM.out)
     have nLF := Aside0.mk hl
     clear HB GM LF RZ R21 R24 R27 BS
     have HB := n_
     have GM := nGM
     have LF := nLF
     have BS := nBS
     have RZ := nRZ
     have R21 := nR21
     have R24 := nR24
     have R27 := nR27
     clear hl ho hbw n_ nGM nLF nRZ nR21 nR24 nR27 nBS
     refine ⟨_,congrArg Ending.returned EY.out,?_⟩
     clear hHeld
     refine hK.out _ _ ⟨(blk_cell GM.out 0).trans rfl,(blk_cell GM.out 1).trans rfl,(blk_cell GM.out 2).trans rfl⟩ (fun hHeld => ?_)
     clear hK K
     refine nm 142 ?_
     refine one_ (i := 8) (N := some 143) (bz 12 511) rfl rfl (by kernel_rfl) (by decide) (fun K hK => ?_)
     refine goes_ Try.func45 (by kernel_rfl) rfl #[.agg #[.int .u64 p,.int .i64 (T : Int),.slice Az z.length cz],.int .u64 (cf 0),.slice AL y.length cL] (by rfl) rfl rfl (by (try simp only [List.map_toArray,List.map_cons,List.map_nil]);first|done|rfl) ?_
     refine (tapeshift_mover_rest.calls p (T : Int) Az cz z (cf 0) AL cL y (nR 0) _ (by first|exact (Kd.R_reads' RZ.out).2.2|exact (Kd.R_reads' (Kd.R_drew RZ.out)).2.2) (Kd.R_reads' RZ.out).2.1 (by first|exact Kd.C_below CY.out HB.out|exact Kd.C_below CY.out (below_drew HB.out)) (by rw [YL.out];exact Nat.le_trans XL.out HCL.out) FNm.out).mono ?_
     rintro e w123 ⟨v143,rfl,ho,hb⟩
     have nR143_ := Aside0.mk (R_any ho)
     obtain ⟨A143,c143,e_⟩ := Kd.R_slice ho
     subst e_
     clear ho
     have n_ := Aside0.mk (below_step (HB.out) hb)
     have nRZ := Aside0.mk (Kd.R_below RZ.out hb)
     have nR21 := Aside0.mk (Kd.R_below R21.out hb)
     have nR24 := Aside0.mk (Kd.R_below R24.out hb)
     have nR27 := Aside0.mk (Kd.R_below R27.out hb)
     have h_ := below_size hb;have nBS := Aside0.mk (Nat.le_trans BS.out h_);clear h_
     have nGM := Aside0.mk (blk_below GM.out hb)
     have nLF := Aside0.mk (show LeftAt w123 _ _ _ _ from blk_below LF.out hb)
     clear HB GM LF RZ R21 R24 R27 BS
     have HB := n_
     have GM := nGM
     have LF := nLF
     have BS := nBS
     have RZ := nRZ
     have R21 := nR21
     have R24 := nR24
     have R27 := nR27
     clear hb n_ nGM nLF nRZ nR21 nR24 nR27 nBS
     have R143 := nR143_
     clear nR143_
     refine ⟨_,rfl,?_⟩
     clear hHeld
     refine hK.out _ _ ⟨(blk_cell GM.out 0).trans rfl,(blk_cell GM.out 1).trans rfl,(blk_cell GM.out 2).trans rfl⟩ (fun hHeld => ?_)
     clear hK K
     refine nm 143 ?_
     refine one_ (i := 9) (N := some 144) (bz 12 1023) rfl rfl (by kernel_rfl) (by decide) (fun K hK => ?_)
     refine Kd.R_append_rows_step (Kd.int .u64) (w0 := w) w.heap.size (by rfl) (.tmp 136) (.tmp 143) 26 22 (.int .u64 0) 8 rfl Try.underlying26 info22 rfl (by decide) (by omega) u27 (ra ++ rb ++ catF nR m) (nR 0) A143 (nR 0).length c143 (fun k => B2 ≤ k) (fun _ => False) rfl rfl R27.out (Kd.R_reads' R143.out).2.2 (fun _ _ h => h) (fun _ hk => hk.elim) (fun k hk => Nat.le_trans BS.out hk) HB.out (below_size HB.out) LCAT.out ?_
     intro v144 w124 ho hb hg hat
     have nBS := Aside0.mk (Nat.le_trans BS.out hg.size)
     have nGM := Aside0.mk (blk_grown GM.out hg (low_not R27.out GB.out))
     have nLF := Aside0.mk (show LeftAt w124 _ _ _ _ from blk_grown LF.out hg (low_not R27.out LB.out))
     have nRZ := Aside0.mk (low_grown RZ.out R27.out hg)
     have nR21 := Aside0.mk (low_grown R21.out R27.out hg)
     have nR24 := Aside0.mk (low_grown R24.out R27.out hg)
     have n_ := Aside0.mk ho
     have nHB := Aside0.mk hb
     clear HB GM LF BS R27 RZ R21 R24
     have HB := nHB;have GM := nGM;have LF := nLF;have BS := nBS;have R27 := n_
     have RZ := nRZ
     have R21 := nR21
     have R24 := nR24
     clear ho hb hg hat n_ nHB nGM nLF nBS nRZ nR21 nR24
     clear hHeld
     refine hK.out _ _ ⟨(blk_cell GM.out 0).trans rfl,(blk_cell GM.out 1).trans rfl,(blk_cell GM.out 2).trans rfl⟩ (fun hHeld => ?_)
     clear hK K
     refine nm 144 ?_
     refine pu 10 12 (bz 12 2047) ?_
     refine pu 11 13 (bz 12 4095) ?_
     clear hHeld
     refine done_ (by kernel_rfl) ?_
     rw [HMT.out] at R27
     go_wp2
     first|go_ret|((try simp only [Exit.inBlock,Exit.then]);refine bodyPost_ret (results_tmp2 rfl _ _ _) rfl ?_)
     refine ⟨_,_,rfl,Kd.R_mono R24.out fun k hk => low_not R27.out hk.2,Kd.R_mono R27.out fun k hk he => ?_,HB.out⟩
     have h1 := (R24.out.1 k he.symm).2
     have h2 : B2 ≤ k := hk
     omega
end Go.Proofs.Ytejeelpnmdfibaa.Hw
end
section
namespace Go.Proofs.Ytejeelpnmdfibaa.E
open Go.RowKit Go.Proofs.Ytejeelpnmdfibaa.Pr Go.Proofs.Ytejeelpnmdfibaa.Hw Go.Proofs.Ytejeelpnmdfibaa.Pl Go.Proofs.YtejeelpnmdfibaaW.PrintWords Go.Proofs.YtejeelpnmdfibaaW.PrintLast Go.Proofs.YtejeelpnmdfibaaW.PrintMore
set_option linter.unusedVariables false
set_option linter.unusedSimpArgs false
theorem allQ {F : Nat → Int → Option Bool} {n : Nat} {Q : Nat → Prop} [DecidablePred Q] {e : Bool} (hend : Ev (fun k => F k (n : Int)) e) (hyes : ∀ i,i < n → Q i → ∀ r,Ev (fun k => F k ((i + 1 : Nat) : Int)) r → Ev (fun k => F k (i : Int)) r)
  (hno : ∀ i,i < n → ¬ Q i → Ev (fun k => F k (i : Int)) false) (r : Bool) (hr : r = true ↔ ((∀ i,i < n → Q i) ∧ e = true)) : Ev (fun k => F k ((0 : Nat) : Int)) r := by
 by_cases hall : ∀ i,i < n → Q i
 ·have : r = e := by
   cases e with
   | true => exact hr.2 ⟨hall,rfl⟩
   | false => exact Bool.eq_false_iff.mpr fun h => by have := (hr.1 h).2;cases this
  rw [this]
  exact up (Q := fun i => Ev (fun k => F k (i : Int)) e) (n := n) hend fun i hi h => hyes i hi (hall i hi) e h
 ·have hf : r = false := Bool.eq_false_iff.mpr fun h => hall (hr.1 h).1
  rw [hf]
  obtain ⟨i,hi,hq⟩ : ∃ i,i < n ∧ ¬ Q i := Classical.byContradiction fun h => hall fun i hi => Classical.byContradiction fun hq => h ⟨i,hi,hq⟩
  refine up (Q := fun i => Ev (fun k => F k (i : Int)) false) (n := i) (hno i hi hq) fun j hj h => ?_
  by_cases hqj : Q j
  ·exact hyes j (by omega) hqj false h
  ·exact hno j (by omega) hqj
theorem words_ev (a b : List Int) (ha : a.length ≤ 1000000000) : Ev (fun k => privityref14_Words.f k a b) (decide (a = b)) := by
 by_cases hl : a.length = b.length
 ·have h := allQ (F := fun k i => privityref14_Words.l0 k a b i) (n := a.length) (Q := fun i => a.getD i 0 = b.getD i 0) (e := true) ?_ (fun i hi hq r h => ?_) (fun i hi hq => ?_) (decide (a = b)) ?_
  ·refine h.congr fun k => ?_
   unfold privityref14_Words.f
   rw [if_pos (by omega)];rfl
  ·refine Ev.step (fun k => ?_) (Ev.now _)
   simp only [privityref14_Words.l0]
   rw [if_neg (by omega)]
  ·refine Ev.step (fun k => ?_) h
   simp only [privityref14_Words.l0]
   rw [if_pos (by omega),if_pos (by omega),if_pos (by omega),rd_nat,rd_nat,if_pos hq,wnat (by omega)]
  ·refine Ev.step (fun k => ?_) (Ev.now _)
   simp only [privityref14_Words.l0]
   rw [if_pos (by omega),if_pos (by omega),if_pos (by omega),rd_nat,rd_nat,if_neg hq]
  ·rw [decide_eq_true_iff]
   refine ⟨fun e => ⟨fun i _ => by rw [e],rfl⟩,fun h => list_ext_getD hl fun i => ?_⟩
   by_cases hi : i < a.length
   ·exact h.1 i hi
   ·rw [getD_out a i (by omega),getD_out b i (by omega)]
 ·have : decide (a = b) = false := decide_eq_false fun e => hl (by rw [e])
  rw [this]
  refine Ev.congr (fun k => ?_) (Ev.now _)
  unfold privityref14_Words.f
  rw [if_neg (by omega)]
def val12B (p N T : Int) : Bool := supB p && decide (4 ≤ N ∧ N ≤ 13 ∧ N < p ∧ 1 ≤ T ∧ T < N ∧ 3 * T < N)
theorem val12_ev (p N T : Int) : Ev (fun k => privityref12_Valid.f k p N T) (val12B p N T) := by
 unfold privityref12_Valid.f
 refine ev_if (supported_ev p) (fun h => ?_) (fun h => ?_)
 ·unfold val12B
  rw [h,Bool.true_and]
  refine Ev.congr (fun k => ?_) (Ev.now _)
  by_cases h1 : 4 ≤ N
  ·rw [if_pos h1]
   by_cases h2 : N ≤ 13
   ·rw [if_pos h2,wrapU_id (by omega) (by omega)]
    by_cases h3 : N < p
    ·rw [if_pos h3]
     by_cases h4 : 1 ≤ T
     ·rw [if_pos h4]
      by_cases h5 : T < N
      ·rw [if_pos h5,w64' (by omega) (by omega)]
       by_cases h6 : 3 * T < N
       ·rw [decide_eq_true h6,decide_eq_true ⟨h1,h2,h3,h4,h5,h6⟩]
       ·rw [decide_eq_false h6,decide_eq_false fun h => h6 h.2.2.2.2.2]
      ·rw [if_neg h5,decide_eq_false fun h => h5 h.2.2.2.2.1]
     ·rw [if_neg h4,decide_eq_false fun h => h4 h.2.2.2.1]
    ·rw [if_neg h3,decide_eq_false fun h => h3 h.2.2.1]
   ·rw [if_neg h2,decide_eq_false fun h => h2 h.2.1]
  ·rw [if_neg h1,decide_eq_false fun h => h1 h.1]
 ·have : val12B p N T = false := by unfold val12B;rw [h];rfl
  rw [this];exact Ev.now _
def IncAt (N : Int) (l : List Int) (i : Nat) : Prop := 1 ≤ l.getD i 0 ∧ l.getD i 0 ≤ N ∧ (i = 0 ∨ l.getD (i - 1) 0 < l.getD i 0)
instance (N : Int) (l : List Int) : DecidablePred (IncAt N l) := fun i => by unfold IncAt;infer_instance
def incB (N : Int) (l : List Int) : Bool := decide (∀ i,i < l.length → IncAt N l i)
def coaB (p N T : Int) (l : List Int) : Bool := val12B p N T && (decide ((l.length : Int) ≤ T) && incB N l)
theorem coa12_ev (p N T : Int) (l : List Int) : Ev (fun k => privityref12_ValidCoalition.f k p N T l) (coaB p N T l) := by
 unfold privityref12_ValidCoalition.f
 have hno : ∀ r,r = false → Ev (fun k => privityref12_ValidCoalition.j0 k l true p N T) r := fun r hr => by
  subst hr
  refine Ev.step (fun k => ?_) (Ev.now _)
  simp only [privityref12_ValidCoalition.j0]
  rw [if_pos trivial]
 refine ev_if (val12_ev p N T) (fun h => ?_) (fun h => hno _ (by unfold coaB;rw [h];rfl))
 unfold coaB
 rw [h,Bool.true_and]
 unfold val12B at h
 rw [Bool.and_eq_true,decide_eq_true_eq] at h
 obtain ⟨_,a1,a2,a3,a4,a5,a6⟩ := h
 by_cases hl : (l.length : Int) > T
 ·rw [decide_eq_true hl]
  exact hno _ (by rw [decide_eq_false (by omega)];rfl)
 ·rw [decide_eq_false hl,decide_eq_true (by omega),Bool.true_and]
  refine Ev.step (f := fun k => privityref12_ValidCoalition.l0 k l ((0 : Nat) : Int) p N T) (fun k => ?_) ?_
  ·simp only [privityref12_ValidCoalition.j0]
   rw [if_neg (by simp)];rfl
  ·refine allQ (F := fun k i => privityref12_ValidCoalition.l0 k l i p N T) (n := l.length) (Q := IncAt N l) (e := true) ?_ (fun i hi hq r h => ?_) (fun i hi hq => ?_) (incB N l) (by unfold incB;rw [decide_eq_true_iff];exact ⟨fun h => ⟨h,rfl⟩,fun h => h.1⟩)
   ·refine Ev.step (fun k => ?_) (Ev.now _)
    simp only [privityref12_ValidCoalition.l0]
    rw [if_neg (by omega)]
   ·obtain ⟨q1,q2,q3⟩ := hq
    refine Ev.step (fun k => ?_) h
    simp only [privityref12_ValidCoalition.l0]
    rw [if_pos (by omega),if_pos (by omega),rd_nat,if_neg (by omega),if_neg (by omega),wnat (by omega)]
    by_cases h0 : i = 0
    ·rw [if_neg (by omega)]
    ·rw [if_pos (by omega),w64' (n := (i : Int) - 1) (by omega) (by omega),if_pos (by omega),if_pos (by omega),show (i : Int) - 1 = ((i - 1 : Nat) : Int) from by omega,rd_nat,if_neg (by have := q3.resolve_left h0;omega)]
   ·refine Ev.step (fun k => ?_) (Ev.now _)
    simp only [privityref12_ValidCoalition.l0]
    rw [if_pos (by omega),if_pos (by omega),rd_nat]
    by_cases q1 : l.getD i 0 < 1
    ·rw [if_pos q1]
    ·rw [if_neg q1]
     by_cases q2 : l.getD i 0 > N
     ·rw [if_pos q2]
     ·have h0 : i ≠ 0 := fun e => hq ⟨by omega,by omega,.inl e⟩
      rw [if_neg q2,if_pos (by omega),w64' (n := (i : Int) - 1) (by omega) (by omega),if_pos (by omega),if_pos (by omega),show (i : Int) - 1 = ((i - 1 : Nat) : Int) from by omega,rd_nat,if_pos (Int.not_lt.1 fun h => hq ⟨by omega,by omega,.inr h⟩)]
def mayB (p N T : Int) (l : List Int) : Bool := val12B p N T && (decide (N ≤ 7) && coaB p N T l)
theorem may_ev (p N T : Int) (l : List Int) (da db : Int) (w : List Int) : Ev (fun k => privitylaw43_may.f k p N T l da db w) (mayB p N T l) := by
 unfold privitylaw43_may.f
 refine ev_if (val12_ev p N T) (fun h => ?_) (fun h => by unfold mayB;rw [h];exact Ev.now _)
 unfold mayB
 rw [h,Bool.true_and]
 refine ev_ite (fun h7 => ?_) (fun h7 => by rw [decide_eq_false h7];exact Ev.now _)
 rw [decide_eq_true h7,Bool.true_and]
 exact Ev.bind (coa12_ev p N T l) (Ev.now _)
theorem inc_lt {N : Int} {l : List Int} (h : ∀ i,i < l.length → IncAt N l i) (i : Nat) : ∀ d,i + d + 1 < l.length → l.getD i 0 < l.getD (i + d + 1) 0
 | 0,hd => by
  have := (h (i + 1) hd).2.2.resolve_left (by omega)
  rwa [Nat.add_sub_cancel] at this
 | d + 1,hd => by
  have h1 := inc_lt h i d (by omega)
  have h2 := (h (i + d + 1 + 1) hd).2.2.resolve_left (by omega)
  rw [Nat.add_sub_cancel] at h2
  have : i + (d + 1) + 1 = i + d + 1 + 1 := by omega
  rw [this];omega
structure Ok12 (p N T : Int) (bad : List Int) : Prop where
 hp : Supp p
 np : N < p
 coa : CoaB N T bad
theorem ok12 {p N T : Int} {l : List Int} (h : coaB p N T l = true) : Ok12 p N T l := by
 unfold coaB val12B incB at h
 rw [Bool.and_eq_true,Bool.and_eq_true,Bool.and_eq_true,decide_eq_true_eq,decide_eq_true_eq,decide_eq_true_eq] at h
 obtain ⟨⟨h1,a1,a2,a3,a4,a5,a6⟩,h2,h3⟩ := h
 have hin : ∀ x ∈ l,∃ i,i < l.length ∧ l.getD i 0 = x := fun x hx => by
  obtain ⟨i,hi,rfl⟩ := List.getElem_of_mem hx
  exact ⟨i,hi,Hw.getD_in _ _ hi⟩
 refine ⟨supB_of h1,a3,⟨a1,a2,a4,a6,h2,?_,fun x hx => ?_⟩⟩
 ·rw [List.nodup_iff_pairwise_ne]
  refine List.pairwise_iff_getElem.2 fun i j hi hj hij e => ?_
  have := inc_lt h3 i (j - i - 1) (by omega)
  rw [show i + (j - i - 1) + 1 = j from by omega,Hw.getD_in _ _ hi,Hw.getD_in _ _ hj,e] at this
  omega
 ·obtain ⟨i,hi,rfl⟩ := hin x hx
  have := h3 i hi
  exact ⟨this.1,this.2.1⟩
structure OkM (p N T : Int) (bad : List Int) : Prop where
 ok : Ok12 p N T bad
 n7 : N ≤ 7
theorem okM {p N T : Int} {l : List Int} (h : mayB p N T l = true) : OkM p N T l := by
 unfold mayB at h
 rw [Bool.and_eq_true,Bool.and_eq_true,decide_eq_true_eq] at h
 exact ⟨ok12 h.2.2,h.2.1⟩
theorem OkM.t {p N T : Int} {bad : List Int} (h : OkM p N T bad) : T = 1 ∨ T = 2 := by
 have h1 := h.ok.coa.t0
 have h2 := h.ok.coa.t1
 have h3 := h.n7
 omega
def cutL (p : Int) (w : List Int) (m n : Nat) : List Int := tabL n fun i => if m + i < w.length then w.getD (m + i) 0 % p else 0
theorem cutL_length (p : Int) (w : List Int) (m n : Nat) : (cutL p w m n).length = n := tabL_length _ _
theorem cutL_res {p : Int} (hp : Supp p) (w : List Int) (m n : Nat) : ∀ x ∈ cutL p w m n,Res p x := tabL_res fun i _ => by
 split
 ·exact Res.mod hp _
 ·have := hp.bd;exact ⟨Int.le_refl 0,by omega⟩
theorem cut_ev {p : Int} (hp : Supp p) (N T : Int) (bad : List Int) (da db : Int) {w : List Int} (hw : ∀ x ∈ w,0 ≤ x) (m n : Nat) (hm : m ≤ 1000) (hn : n ≤ 1000) : Ev (fun k => privitylaw43_cut.f k p N T bad da db w (m : Int) (n : Int)) (cutL p w m n) := by
 have hb := hp.bd
 unfold privitylaw43_cut.f
 have hs : wrap64 ((m : Int) + (n : Int)) = ((m + n : Nat) : Int) := by rw [w64' (by omega) (by omega)];omega
 have h := up (Q := fun i => Ev (fun k => privitylaw43_cut.l0 k (m : Int) (n : Int) (cutL p w m i) ((m + i : Nat) : Int) p N T bad da db w) (cutL p w m n)) (n := n) ?_ fun i hi h => ?_
 ·exact h
 ·refine Ev.step (fun k => ?_) (Ev.now _)
  simp only [privitylaw43_cut.l0]
  rw [hs,if_neg (by omega)]
 ·have e : cutL p w m (i + 1) = cutL p w m i ++ [if m + i < w.length then w.getD (m + i) 0 % p else 0] := tabL_succ _ _
  rw [e] at h
  refine Ev.step (fun k => ?_) h
  simp only [privitylaw43_cut.l0]
  rw [hs,if_pos (by omega),wnat (by omega),cutL_length]
  by_cases hlt : m + i < w.length
  ·have h0 : 0 ≤ w.getD (m + i) 0 := by rw [Hw.getD_in _ _ hlt];exact hw _ (List.getElem_mem _)
   rw [if_pos hlt,if_pos (by omega),if_pos (by omega),if_neg (by omega),if_pos (by omega),rd_nat,tmod_pos h0];rfl
  ·rw [if_neg hlt,if_neg (by omega),if_pos (by omega)];rfl
def qL (p T : Int) (w : List Int) : List Int := cutL p w 0 (T.toNat + 1)
def rL (p T : Int) (w : List Int) : List Int := cutL p w (T.toNat + 1) (T.toNat * (T.toNat + 1) / 2)
theorem one_ev {p : Int} (hp : Supp p) (N : Int) {T : Int} (hT : T = 1 ∨ T = 2) (bad : List Int) (da db : Int) {w : List Int} (hw : ∀ x ∈ w,0 ≤ x) : Ev (fun k => privitylaw43_one.f k p N T bad da db w) (qL p T w,rL p T w) := by
 unfold privitylaw43_one.f
 rcases hT with rfl|rfl
 ·have h1 := cut_ev hp N 1 bad da db hw 0 2 (by omega) (by omega)
  have h2 := cut_ev hp N 1 bad da db hw 2 1 (by omega) (by omega)
  have a1 : wrap64 ((1 : Int) + 1) = 2 := by unfold wrap64;omega
  have a2 : wrap64 ((1 : Int) * 2) = 2 := by unfold wrap64;omega
  have a3 : wrap64 (Int.tdiv 2 2) = 1 := by kernel_rfl
  rw [a1,a2,a3]
  exact Ev.bind h1 (Ev.bind h2 (Ev.now _))
 ·have h1 := cut_ev hp N 2 bad da db hw 0 3 (by omega) (by omega)
  have h2 := cut_ev hp N 2 bad da db hw 3 3 (by omega) (by omega)
  have a1 : wrap64 ((2 : Int) + 1) = 3 := by unfold wrap64;omega
  have a2 : wrap64 ((2 : Int) * 3) = 6 := by unfold wrap64;omega
  have a3 : wrap64 (Int.tdiv 6 2) = 3 := by kernel_rfl
  rw [a1,a2,a3]
  exact Ev.bind h1 (Ev.bind h2 (Ev.now _))
theorem Ok12.van {p N T : Int} {bad : List Int} (h : Ok12 p N T bad) : VanOk p (extB N T bad) :=
 ⟨fun x hx => by have := extB_range h.coa x hx;have := h.np;exact ⟨by omega,by omega⟩,fun x hx => by have := extB_range h.coa x hx;omega,extB_nodup h.coa⟩
def vanZ (p N T : Int) (bad : List Int) : List Int := polL p (vanP (extB N T bad))
theorem vanZ_length {p N T : Int} {bad : List Int} (h : Ok12 p N T bad) : ((vanZ p N T bad).length : Int) = T + 1 := by
 unfold vanZ
 rw [van_len h.hp h.van]
 have := extB_length h.coa
 omega
theorem vanpol_ev {p N T : Int} {bad : List Int} (h : Ok12 p N T bad) : Ev (fun k => params_VanishingPolynomial.f k p N T bad) (vanZ p N T bad) := by
 have hp := h.hp
 have hc := h.coa
 have hn0 := hc.n0
 have hn1 := hc.n1
 have hlen := hc.len
 have ht := hc.t1
 have hel := extB_length hc
 have hext : params_ExtendCoalition.f p N T bad = some (extB N T bad) := by
  unfold params_ExtendCoalition.f
  rw [if_pos (by omega),if_pos (by omega),if_pos (by omega),if_pos]
  ·rfl
  ·refine List.all_eq_true.2 fun x hx => ?_
   have := hc.rng x hx
   rw [Bool.and_eq_true,decide_eq_true_eq,decide_eq_true_eq];omega
 unfold params_VanishingPolynomial.f
 obtain ⟨e,he⟩ : ∃ e,e = extB N T bad := ⟨_,rfl⟩
 have hv := h.van
 have hr := extB_range hc
 unfold vanZ
 rw [← he] at hext hel hv hr ⊢
 refine ev_now_bind hext ?_
 have hmain := up (Q := fun i => Ev (fun k => params_VanishingPolynomial.l0 k (vanP (e.take i)) e (e.length : Int) (i : Int) p N T) (polL p (vanP e))) (n := e.length) ?_ fun i hi h => ?_
 ·exact hmain
 ·rw [List.take_length]
  refine Ev.step (f := fun k => (interpolate_Polynomial.f p (vanP e)).bind fun bt => some bt.1) (fun k => ?_) ?_
  ·simp only [params_VanishingPolynomial.l0]
   rw [if_neg (by omega)]
  ·refine ev_now_bind (ipol_eq hp (vanP_ok hp hv) (by rw [vanP_length];omega)) ?_
   rw [if_pos (vanP_nd hp hv)]
   exact Ev.now _
 ·have e1 : vanP (e.take (i + 1)) = vanP (e.take i) ++ [⟨e.getD i 0,0⟩] := by
   have e2 : e.take (i + 1) = e.take i ++ [e.getD i 0] := by
    rw [List.take_add_one,List.getElem?_eq_getElem hi,Hw.getD_in _ _ hi];rfl
   unfold vanP
   rw [e2,List.map_append];rfl
  rw [e1] at h
  have hx := hr (e.getD i 0) (by rw [Hw.getD_in _ _ hi];exact List.getElem_mem _)
  refine Ev.step (fun k => ?_) h
  simp only [params_VanishingPolynomial.l0]
  rw [if_pos (by omega),if_pos (by omega),if_pos (by omega),if_pos (by rw [vanP_length,List.length_take];omega),rd_nat,wrapU_id (by omega) (by omega),wnat (by omega)]
def byL (p : Int) (z : List Int) (d : Int) (l : List Int) : List Int := tabL l.length fun j => (l.getD j 0 + d * z.getD j 0 % p) % p
theorem byL_length (p : Int) (z : List Int) (d : Int) (l : List Int) : (byL p z d l).length = l.length := tabL_length _ _
theorem byL_res {p : Int} (hp : Supp p) (z : List Int) (d : Int) (l : List Int) : ∀ x ∈ byL p z d l,Res p x := tabL_res fun _ _ => Res.mod hp _
def byS (p : Int) (z : List Int) (d : Int) (l : List Int) (i : Nat) : List Int := tabL l.length fun j => if j < i then (l.getD j 0 + d * z.getD j 0 % p) % p else l.getD j 0
theorem byS_next (p : Int) (z : List Int) (d : Int) (l : List Int) (i : Nat) (hi : i < l.length) : (byS p z d l i).set i ((l.getD i 0 + d * z.getD i 0 % p) % p) = byS p z d l (i + 1) := by
 refine list_ext_getD (by rw [List.length_set];unfold byS;rw [tabL_length,tabL_length]) fun j => ?_
 have hl : (byS p z d l i).length = l.length := tabL_length _ _
 by_cases e : j = i
 ·subst e
  unfold byS
  rw [List.getD_eq_getElem?_getD,List.getElem?_set_self (by rw [tabL_length];exact hi),tabL_getD,if_pos hi,if_pos (Nat.lt_succ_self _)]
  rfl
 ·rw [List.getD_eq_getElem?_getD,List.getElem?_set_ne (Ne.symm e),← List.getD_eq_getElem?_getD]
  unfold byS
  rw [tabL_getD,tabL_getD]
  by_cases hj : j < l.length
  ·rw [if_pos hj,if_pos hj]
   by_cases h1 : j < i
   ·rw [if_pos h1,if_pos (by omega)]
   ·rw [if_neg h1,if_neg (by omega)]
  ·rw [if_neg hj,if_neg hj]
theorem by_ev {p : Int} (hp : Supp p) (T : Int) {z l : List Int} (hz : ∀ x ∈ z,Res p x) (hl : ∀ x ∈ l,Res p x) (hzl : l.length ≤ z.length) (hll : l.length ≤ 1000) {d : Int} (hd : Res p d) : Ev (fun k => tapeshift_mover_by.f k p T z d l) (byL p z d l) := by
 unfold tapeshift_mover_by.f
 have hcl : slices_Clone_uint64_uint64.f l = some l := by unfold slices_Clone_uint64_uint64.f;rw [if_pos (by omega)]
 refine ev_now_bind hcl ?_
 have e0 : byS p z d l 0 = l := by
  unfold byS
  refine (tabL_congr fun j hj => ?_).trans (tabL_of l)
  rw [if_neg (by omega)]
 have e1 : byS p z d l l.length = byL p z d l := tabL_congr fun j hj => by rw [if_pos hj]
 have h := up (Q := fun i => Ev (fun k => tapeshift_mover_by.l0 k d (byS p z d l i) (l.length : Int) (i : Int) p T z) (byL p z d l)) (n := l.length) ?_ fun i hi h => ?_
 ·rw [e0] at h;exact h
 ·rw [e1]
  refine Ev.step (fun k => ?_) (Ev.now _)
  simp only [tapeshift_mover_by.l0]
  rw [if_neg (by omega)]
 ·have hbl : (byS p z d l i).length = l.length := tabL_length _ _
  have hbi : (byS p z d l i).getD i 0 = l.getD i 0 := by unfold byS;rw [tabL_getD,if_pos hi,if_neg (Nat.lt_irrefl _)]
  rw [← byS_next p z d l i hi] at h
  refine Ev.step (f := fun k => (field_Mul.f k p d (z.getD i 0)).bind fun t => (field_Add.f k p (l.getD i 0) t).bind fun t2 => tapeshift_mover_by.l0 k d ((byS p z d l i).set i t2) (l.length : Int) ((i + 1 : Nat) : Int) p T z) (fun k => ?_) (Ev.bind (mul_ev hp hd (res_getD hp hz i)) (Ev.bind (add_ev hp (res_getD hp hl i) (Res.mod hp _)) h))
  simp only [tapeshift_mover_by.l0]
  rw [if_pos (by omega),if_pos (by omega),if_pos (by omega),if_pos (by omega),rd_nat,rd_nat,hbi,wnat (by omega),Int.toNat_natCast]
def wL (p T : Int) (z : List Int) : List Int := if T = 1 then [z.getD 1 0 * z.getD 1 0 % p] else [z.getD 1 0 * z.getD 1 0 % p,z.getD 1 0 * z.getD 2 0 % p,z.getD 2 0 * z.getD 2 0 % p]
theorem wL1 (p : Int) (z : List Int) : wL p 1 z = [z.getD 1 0 * z.getD 1 0 % p] := if_pos rfl
theorem wL2 (p : Int) (z : List Int) : wL p 2 z = [z.getD 1 0 * z.getD 1 0 % p,z.getD 1 0 * z.getD 2 0 % p,z.getD 2 0 * z.getD 2 0 % p] := if_neg (by omega)
theorem mul3 (p d a b : Int) : d * a % p * b % p = d * (a * b % p) % p := by
 rw [mulm (a := d * a % p) (a' := d * a) (b := b) (b' := b) (Int.emod_emod_of_dvd _ (Int.dvd_refl _)) rfl,mulm (a := d) (a' := d) (b := a * b % p) (b' := a * b) rfl (Int.emod_emod_of_dvd _ (Int.dvd_refl _)),Int.mul_assoc]
theorem three {l : List Int} (h : l.length = 3) : l = [l.getD 0 0,l.getD 1 0,l.getD 2 0] := by
 match l,h with
 | [a,b,c],_ => rfl
theorem sole {l : List Int} (h : l.length = 1) : l = [l.getD 0 0] := by
 match l,h with
 | [a],_ => rfl
theorem mov_by {p T d : Int} {z r : List Int} (hT : T = 1 ∨ T = 2) (hr : r.length = T.toNat * (T.toNat + 1) / 2) : movI p d T.toNat z r T.toNat 1 0 = byL p (wL p T z) d r := by
 rcases hT with rfl|rfl
 ·have h1 : r.length = 1 := hr
  have e : byL p (wL p 1 z) d r = [(r.getD 0 0 + d * (z.getD 1 0 * z.getD 1 0 % p) % p) % p] := by
   unfold byL;rw [h1,wL1];rfl
  rw [e,← mul3];rfl
 ·have h1 : r.length = 3 := hr
  have e : byL p (wL p 2 z) d r = [(r.getD 0 0 + d * (z.getD 1 0 * z.getD 1 0 % p) % p) % p,(r.getD 1 0 + d * (z.getD 1 0 * z.getD 2 0 % p) % p) % p,(r.getD 2 0 + d * (z.getD 2 0 * z.getD 2 0 % p) % p) % p] := by
   unfold byL;rw [h1,wL2];rfl
  rw [e,← mul3,← mul3,← mul3];rfl
theorem sharing_ev {p N T : Int} {bad : List Int} (h : OkM p N T bad) {d : Int} (hd : Res p d) {q r : List Int} (hq : ∀ x ∈ q,Res p x) (hr : ∀ x ∈ r,Res p x) (lq : q.length = T.toNat + 1) (lr : r.length = T.toNat * (T.toNat + 1) / 2) :
  Ev (fun k => tapeshift_Sharing.f k p N T bad d q r) (byL p (vanZ p N T bad) d q,byL p (wL p T (vanZ p N T bad)) d r) := by
 have hp := h.ok.hp
 have hT := h.t
 have hzl := vanZ_length h.ok
 have hzr : ∀ x ∈ vanZ p N T bad,Res p x := van_res hp h.ok.van
 have hm := mov_by (p := p) (d := d) (z := vanZ p N T bad) hT lr
 have hml : (movI p d T.toNat (vanZ p N T bad) r T.toNat 1 0).length = r.length := by rw [hm,byL_length]
 have h3 : r.length ≤ 3 := by rw [lr];rcases hT with rfl|rfl <;> decide
 have hrest : tapeshift_mover_rest.f p T (vanZ p N T bad) d r = some (byL p (wL p T (vanZ p N T bad)) d r) := by
  unfold tapeshift_mover_rest.f
  rw [if_pos (supB_iff.2 hp),if_pos (by omega),if_pos (by omega),if_pos (resB_iff.2 hd),if_pos (ressB_iff.2 hzr),if_pos (by omega),if_pos (ressB_iff.2 hr),if_pos (by rw [hml];exact Nat.le_refl _),if_pos (by omega),hm]
 unfold tapeshift_Sharing.f tapeshift_of.f
 refine Ev.bind (a := (p,T,vanZ p N T bad)) (f := fun k bt => (tapeshift_mover_by.f k bt.1 bt.2.1 bt.2.2 d q).bind fun t220 => ((tapeshift_mover_rest.f bt.1 bt.2.1 bt.2.2 d r).bind fun t223 => (some (t220,t223)))) (Ev.bind (f := fun _ t => some (p,T,t)) (vanpol_ev h.ok) (Ev.now _)) ?_
 exact Ev.bind (by_ev hp T hzr hq (by omega) (by omega) hd) (ev_now_bind hrest (Ev.now _))
theorem awake43 : Ev (fun k => privitylaw43_awake.f k) true := Ev.of (fun k => privitylaw43_awake.mono _) (k := 60) privitylaw43_awake.is
theorem awake43' : Ev (fun k => (privitylaw43_awake.f k).bind fun t => some t) true := Ev.bind awake43 (Ev.now _)
def subN (p k : Int) (b : List Int) (s : Nat) (r : List Int) : Nat → List Int
 | 0 => r
 | n + 1 => (subN p k b s r n).set (s + n) (((subN p k b s r n).getD (s + n) 0 - k * b.getD n 0 % p) % p)
theorem subN_length (p k : Int) (b : List Int) (s : Nat) (r : List Int) : ∀ n,(subN p k b s r n).length = r.length
 | 0 => rfl
 | n + 1 => by rw [subN,List.length_set];exact subN_length p k b s r n
theorem res_set {p : Int} {l : List Int} (hl : ∀ x ∈ l,Res p x) (i : Nat) {v : Int} (hv : Res p v) : ∀ x ∈ l.set i v,Res p x := fun x hx => by
 rcases List.mem_or_eq_of_mem_set hx with h|h
 ·exact hl x h
 ·exact h ▸ hv
theorem subN_res {p : Int} (hp : Supp p) (k : Int) (b : List Int) (s : Nat) {r : List Int} (hr : ∀ x ∈ r,Res p x) : ∀ n,∀ x ∈ subN p k b s r n,Res p x
 | 0 => hr
 | n + 1 => by rw [subN];exact res_set (subN_res hp k b s hr n) _ (Res.mod hp _)
theorem subN_far (p k : Int) (b : List Int) (s : Nat) (r : List Int) : ∀ n j,s + n ≤ j → (subN p k b s r n).getD j 0 = r.getD j 0
 | 0,_,_ => rfl
 | n + 1,j,h => by
  rw [subN,List.getD_eq_getElem?_getD,List.getElem?_set_ne (by omega),← List.getD_eq_getElem?_getD]
  exact subN_far p k b s r n j (by omega)
theorem subN_ev {p : Int} (hp : Supp p) [NeZero p.toNat] (k : Int) (b : List Int) (s : Nat) (r : List Int) (x : Fin p.toNat) : ∀ n,s + n ≤ r.length → ev x (M p (subN p k b s r n)) = ev x (M p r) - T p k * mono x s * ev x ((M p b).take n)
 | 0,_ => by rw [subN,List.take_zero,ev];grind
 | n + 1,h => by
  have ih := subN_ev hp k b s r x n (by omega)
  have hm : M p (subN p k b s r (n + 1)) = (M p (subN p k b s r n)).set (s + n) (T p ((subN p k b s r n).getD (s + n) 0 - k * b.getD n 0)) := by
   rw [subN]
   unfold M
   rw [List.map_set]
   refine congrArg _ ?_
   rw [T_mod hp,T_sub,T_sub,T_mod hp]
  rw [hm,ev_set _ _ _ _ (by rw [M_length,subN_length];omega),ev_take_succ,ih,M_getD,M_getD,mono_add,T_sub,T_mul]
  grind
theorem dm_inner {p : Int} (hp : Supp p) {b : List Int} (hb : ∀ x ∈ b,Res p x) (hb1 : b.length ≤ 1000) (u : Int) {c : Int} (rc : Res p c) {r : List Int} (hr : ∀ x ∈ r,Res p x) (q : List Int) (s : Nat) (hs : s + b.length ≤ r.length) (h1 : r.length ≤ 1000) {X : List Int × List Int × Int}
  (hev : Ev (fun k => poly_DivMod.l0 k p b u (trimL (subN p c b s r b.length)) (q.set s c)) X) : Ev (fun k => poly_DivMod.l1 k p b u r (q.set s c) (s : Int) c b (b.length : Int) 0) X := by
 refine up (Q := fun j => Ev (fun k => poly_DivMod.l1 k p b u (subN p c b s r j) (q.set s c) (s : Int) c b (b.length : Int) ((j : Nat) : Int)) X) (n := b.length) ?_ fun j hj h => ?_
 ·refine Ev.step (f := fun k => (poly_Trim.f k (subN p c b s r b.length)).bind fun t => poly_DivMod.l0 k p b u t (q.set s c)) (fun k => ?_) (Ev.bind (trim_ev _ (by rw [subN_length];omega)) hev)
  simp only [poly_DivMod.l1]
  rw [if_neg (by omega)]
 ·have hg := subN_res hp c b s hr j
  have c1 : (j : Int) < (b.length : Int) := by omega
  have c2 : (0 : Int) ≤ (j : Int) := by omega
  have c3 : (0 : Int) ≤ ((s + j : Nat) : Int) := by omega
  have c4 : ((s + j : Nat) : Int) < ((subN p c b s r j).length : Int) := by rw [subN_length];omega
  have hj1 : wrap64 ((j : Int) + 1) = ((j + 1 : Nat) : Int) := wnat (by omega)
  have hsi : wrap64 ((s : Int) + (j : Int)) = ((s + j : Nat) : Int) := by rw [w64' (by omega) (by omega)];omega
  refine Ev.step (f := fun k => (field_Mul.f k p c (b.getD j 0)).bind fun t => (field_Sub.f k p ((subN p c b s r j).getD (s + j) 0) t).bind fun t2 => poly_DivMod.l1 k p b u ((subN p c b s r j).set (s + j) t2) (q.set s c) (s : Int) c b (b.length : Int) ((j + 1 : Nat) : Int)) (fun k => ?_) (Ev.bind (mul_ev hp rc (res_getD hp hb j)) (Ev.bind (sub_ev hp (res_getD hp hg _) (Res.mod hp _)) h))
  simp only [poly_DivMod.l1]
  rw [hsi,hj1,if_pos c1,if_pos c2,if_pos c1,if_pos c3,if_pos c4,rd_nat,rd_nat,Int.toNat_natCast]
set_option maxHeartbeats 8000000 in
theorem dm_l0 {p : Int} (hp : Supp p) [NeZero p.toNat] {b : List Int} (hb : ∀ x ∈ b,Res p x) (hb0 : 0 < b.length) (hb1 : b.length ≤ 1000) {u : Int} (hu : Res p u) (hi : b.getD (b.length - 1) 0 * u % p = 1) : ∀ (n : Nat) (r q : List Int),r.length ≤ n → r.length ≤ 1000 → q.length ≤ 1000 → (∀ x ∈ r,Res p x) → (∀ x ∈ q,Res p x) → r.length + 1 ≤ q.length + b.length → (∀ i,i + b.length ≤ r.length → q.getD i 0 = 0) →
  ∃ q' r' : List Int,Ev (fun k => poly_DivMod.l0 k p b u r q) (trimL q',r',0) ∧ (∀ x ∈ q',Res p x) ∧ (∀ x ∈ r',Res p x) ∧ q'.length = q.length ∧ r'.length < b.length ∧ ∀ x : Fin p.toNat,ev x (M p q') * ev x (M p b) + ev x (M p r') = ev x (M p q) * ev x (M p b) + ev x (M p r) := by
 intro n
 induction n with
 | zero =>
  intro r q h0 h1 h2 hr hq hl hz
  refine ⟨q,r,?_,hq,hr,rfl,by omega,fun x => rfl⟩
  refine Ev.step (f := fun k => (poly_Trim.f k q).bind fun t => some (t,r,0)) (fun k => ?_) (Ev.bind (trim_ev q (by omega)) (Ev.now _))
  simp only [poly_DivMod.l0]
  rw [if_neg (by omega)]
 | succ n ih =>
  intro r q h0 h1 h2 hr hq hl hz
  by_cases hlt : r.length < b.length
  ·refine ⟨q,r,?_,hq,hr,rfl,hlt,fun x => rfl⟩
   refine Ev.step (f := fun k => (poly_Trim.f k q).bind fun t => some (t,r,0)) (fun k => ?_) (Ev.bind (trim_ev q (by omega)) (Ev.now _))
   simp only [poly_DivMod.l0]
   rw [if_neg (by omega)]
  ·obtain ⟨s,hs⟩ : ∃ s,s = r.length - b.length := ⟨_,rfl⟩
   obtain ⟨c,hc⟩ : ∃ c,c = r.getD (r.length - 1) 0 * u % p := ⟨_,rfl⟩
   have rc : Res p c := by rw [hc];exact Res.mod hp _
   obtain ⟨r1,hr1⟩ : ∃ l,l = subN p c b s r b.length := ⟨_,rfl⟩
   have l1 : r1.length = r.length := by rw [hr1,subN_length]
   have res1 : ∀ x ∈ r1,Res p x := by rw [hr1];exact subN_res hp c b s hr b.length
   have top : r1.getD (r.length - 1) 0 = 0 := by
    rw [hr1]
    obtain ⟨m,hm⟩ : ∃ m,b.length = m + 1 := ⟨b.length - 1,by omega⟩
    rw [hm,subN,List.getD_eq_getElem?_getD,show r.length - 1 = s + m by omega,List.getElem?_set_self (by rw [subN_length];omega)]
    show ((subN p c b s r m).getD (s + m) 0 - c * b.getD m 0 % p) % p = 0
    rw [subN_far p c b s r m (s + m) (Nat.le_refl _)]
    have hbm : b.getD m 0 * u % p = 1 := by have := hi;rwa [hm,Nat.add_sub_cancel] at this
    have hcr : c = r.getD (s + m) 0 * u % p := by rw [hc,show r.length - 1 = s + m by omega]
    have rr := res_getD hp hr (s + m)
    refine T_inj hp (Res.mod hp _) (by have := hp.bd;exact ⟨Int.le_refl 0,by omega⟩) ?_
    have e1 : T p (b.getD m 0) * T p u = 1 := by rw [← T_mul,← T_mod hp,hbm,T_one]
    rw [T_mod hp,T_sub,T_mod hp,T_mul,hcr,T_mod hp,T_mul,T_zero]
    grind
   have less : (trimL r1).length < r.length := by
    have hle := trimL_length r1
    by_cases he : (trimL r1).length = r.length
    ·exfalso
     have hne : trimL r1 ≠ [] := fun h => by rw [h] at he;simp at he;omega
     have := trimL_last r1 hne
     rw [he,trimL_getD] at this
     exact this top
    ·omega
   have short : (trimL r1).length ≤ n := by omega
   have hq1 : ∀ x ∈ q.set s c,Res p x := res_set hq _ rc
   obtain ⟨q',r',hev,a1,a2,a3,a4,a5⟩ := ih (trimL r1) (q.set s c) short (by have := trimL_length r1;omega) (by rw [List.length_set];exact h2) (fun x hx => res1 x (trimL_mem hx)) hq1 (by rw [List.length_set];have := trimL_length r1;omega) (fun i hi => by
    have hle := trimL_length r1
    rw [List.getD_eq_getElem?_getD,List.getElem?_set_ne (by omega),← List.getD_eq_getElem?_getD]
    exact hz i (by omega))
   have hin := dm_inner hp hb hb1 u rc hr q s (by omega) h1 (by rw [← hr1];exact hev)
   refine ⟨q',r',?_,a1,a2,by rw [a3,List.length_set],a4,fun x => ?_⟩
   ·have hw1 : wrap64 ((r.length : Int) - 1) = ((r.length - 1 : Nat) : Int) := by rw [w64' (by omega) (by omega)];omega
    have hw2 : wrap64 ((r.length : Int) - (b.length : Int)) = (s : Int) := by rw [w64' (by omega) (by omega)];omega
    refine Ev.step (f := fun k => (field_Mul.f k p (r.getD (r.length - 1) 0) u).bind fun t => poly_DivMod.l1 k p b u r (q.set s t) (s : Int) t b (b.length : Int) 0) (fun k => ?_) (Ev.bind (a := c) (by rw [hc];exact mul_ev hp (res_getD hp hr _) hu) hin)
    simp only [poly_DivMod.l0]
    rw [hw1,hw2,if_pos (by omega),if_pos (by omega),if_pos (by omega),rd_nat]
    refine congrArg _ (funext fun t => ?_)
    rw [if_pos (by omega),if_pos (by omega),Int.toNat_natCast]
   ·rw [a5 x,ev_trimL x,hr1,subN_ev hp c b s r x b.length (by omega)]
    have hqs : ev x (M p (q.set s c)) = ev x (M p q) + T p c * mono x s := by
     have hm : M p (q.set s c) = (M p q).set s (T p c) := by unfold M;rw [List.map_set]
     rw [hm,ev_set _ _ _ _ (by rw [M_length];omega),M_getD,hz s (by omega),T_zero]
     grind
    have hbt : (M p b).take b.length = M p b := M_take_all b
    rw [hqs,hbt]
    grind
theorem trim_full {b : List Int} (h0 : 0 < b.length) (hl : b.getD (b.length - 1) 0 ≠ 0) : trimL b = b := by
 have hle := trimL_length b
 refine list_ext_getD ?_ fun i => trimL_getD b i
 rcases Nat.lt_or_ge (trimL b).length b.length with h|h
 ·exact absurd ((trimL_getD b (b.length - 1)).symm.trans (getD_out _ _ (by omega))) hl
 ·omega
theorem dm_ev {p : Int} (hp : Supp p) [NeZero p.toNat] {a b : List Int} (ha : ∀ x ∈ a,Res p x) (hb : ∀ x ∈ b,Res p x) (la : a.length ≤ 1000) (lb : b.length ≤ 1000) (hb0 : 0 < b.length) (hl : b.getD (b.length - 1) 0 ≠ 0) :
  ∃ q r : List Int,Ev (fun k => poly_DivMod.f k p a b) (q,r,0) ∧ (∀ x ∈ q,Res p x) ∧ (∀ x ∈ r,Res p x) ∧ q.length ≤ a.length + 1 ∧ r.length < b.length ∧ ∀ x : Fin p.toNat,ev x (M p a) = ev x (M p q) * ev x (M p b) + ev x (M p r) := by
 have htb : trimL b = b := trim_full hb0 hl
 have hrb := res_getD hp hb (b.length - 1)
 have hta := trimL_length a
 obtain ⟨u,hu⟩ : ∃ u,u = invp p (b.getD (b.length - 1) 0) := ⟨_,rfl⟩
 obtain ⟨m,hm⟩ : ∃ m : Nat,m = (trimL a).length + 1 - b.length := ⟨_,rfl⟩
 have hw1 : wrap64 ((b.length : Int) - 1) = ((b.length - 1 : Nat) : Int) := by rw [w64' (by omega) (by omega)];omega
 have hmx : mx 0 (wrap64 (wrap64 (((trimL a).length : Int) - (b.length : Int)) + 1)) = (m : Int) := by
  rw [w64' (n := ((trimL a).length : Int) - (b.length : Int)) (by omega) (by omega),w64' (by omega) (by omega)]
  unfold mx
  split <;> omega
 obtain ⟨q,r,hev,a1,a2,a3,a4,a5⟩ := dm_l0 hp hb hb0 lb (u := u) (by rw [hu];exact inv_res hp _) (by rw [hu];exact inv_spec hp hrb hl) (trimL a).length (trimL a) (List.replicate m 0) (Nat.le_refl _) (by omega) (by rw [List.length_replicate];omega) (fun x hx => ha x (trimL_mem hx)) (fun x hx => by
  rw [List.eq_of_mem_replicate hx];have := hp.bd;exact ⟨Int.le_refl 0,by omega⟩) (by rw [List.length_replicate];omega) (fun i _ => by
  rw [List.getD_eq_getElem?_getD,List.getElem?_replicate];split <;> rfl)
 refine ⟨trimL q,r,?_,fun x hx => a1 x (trimL_mem hx),a2,?_,a4,fun x => ?_⟩
 ·unfold poly_DivMod.f
  have h := trim_ev b (by omega)
  rw [htb] at h
  refine Ev.bind h ?_
  refine Ev.congr (fun k => if_neg (by omega)) ?_
  rw [hw1]
  refine Ev.congr (fun k => if_pos (by omega)) (Ev.congr (fun k => if_pos (by omega)) ?_)
  rw [rd_nat]
  refine Ev.bind (inv_ev hp hrb hl) (Ev.bind (trim_ev a (by omega)) ?_)
  rw [hmx]
  refine Ev.congr (fun k => if_pos (by omega)) (Ev.congr (fun k => if_pos (by rw [Int.toNat_natCast];omega)) ?_)
  rw [Int.toNat_natCast,← hu]
  exact hev
 ·have := trimL_length q
  rw [a3,List.length_replicate] at this
  omega
 ·rw [ev_trimL x,a5 x,ev_trimL x]
  have hz : ev x (M p (List.replicate m 0)) = 0 := by
   have : M p (List.replicate m 0) = List.replicate m 0 := by unfold M;rw [List.map_replicate,T_zero]
   rw [this,ev_zeros]
  rw [hz]
  grind
theorem coef_eq (l : List Int) (i : Nat) : poly_Coefficient.f l (i : Int) = some (l.getD i 0) := by
 unfold poly_Coefficient.f
 rw [if_neg (by omega)]
 by_cases h : l.length ≤ i
 ·rw [if_pos (by omega),getD_out _ _ h]
 ·rw [if_neg (by omega),if_pos (by omega),if_pos (by omega),rd_nat]
theorem quot_uniq {p N U : Int} {bad : List Int} (h : OkM p N U bad) [NeZero p.toNat] {q r v : List Int} (hq : ∀ x ∈ q,Res p x) (hr : ∀ x ∈ r,Res p x) (hv : ∀ x ∈ v,Res p x) (lq : q.length ≤ 20) (lr : r.length ≤ U.toNat) (lv : v.length ≤ 20)
  (e : ∀ x : Fin p.toNat,ev x (M p q) * ev x (M p (vanZ p N U bad)) + ev x (M p r) = ev x (M p v) * ev x (M p (vanZ p N U bad))) : trimL q = trimL v := by
 have hp := h.ok.hp
 have hb := hp.bd
 have hvan := h.ok.van
 have hlen := extB_length h.ok.coa
 have ht := h.t
 have hnil : ∀ x : Fin p.toNat,ev x (M p []) = 0 := fun x => rfl
 have hr0 : trimL r = trimL [] := uniq hp hvan.res hvan.nd hr (fun _ hx => by cases hx) (by omega) (Nat.zero_le _) (fun x hx => by
  refine T_inj hp (evI_res hp _ _) (evI_res hp _ _) ?_
  have e1 := e (T p x)
  have e2 : ev (T p x) (M p (vanZ p N U bad)) = 0 := by rw [← ev_evI hp,show evI p x (vanZ p N U bad) = 0 from van_root hp hvan x hx,T_zero]
  rw [e2] at e1
  rw [ev_evI hp,ev_evI hp,hnil]
  grind)
 have hrz : ∀ x : Fin p.toNat,ev x (M p r) = 0 := fun x => by
  rw [← ev_trimL x r,hr0,ev_trimL x,hnil]
 have hcount := filter_split (extB N U bad) (runL 31 0)
 rw [runL_count hvan.nd (fun x hx => by have := extB_range h.ok.coa x hx;have := h.n7;omega),runL_length] at hcount
 have hres : ∀ x ∈ (runL 31 0).filter (fun x => decide (x ∉ extB N U bad)),Res p x ∧ x ∉ extB N U bad := fun x hx => by
  obtain ⟨h1,h2⟩ := List.mem_filter.1 hx
  have := (runL_mem 31 0 x).1 h1
  exact ⟨⟨by omega,by omega⟩,of_decide_eq_true h2⟩
 refine uniq hp (xs := (runL 31 0).filter fun x => decide (x ∉ extB N U bad)) (fun x hx => (hres x hx).1) ((runL_nodup 31 0).filter _) hq hv (by omega) (by omega) (fun x hx => ?_)
 obtain ⟨h1,h2⟩ := hres x hx
 have hz : evI p x (vanZ p N U bad) ≠ 0 := fun hz => by
  by_cases h0 : x = 0
  ·subst h0
   have := van_zero hp hvan
   rw [show evI p 0 (polL p (vanP (extB N U bad))) = 0 from hz] at this
   omega
  ·exact h2 (van_only hp hvan h1 h0 hz)
 refine T_inj hp (evI_res hp _ _) (evI_res hp _ _) ?_
 have e1 := e (T p x)
 rw [hrz] at e1
 have hne : ev (T p x) (M p (vanZ p N U bad)) ≠ 0 := fun h0 => hz (T_inj hp (evI_res hp _ _) ⟨Int.le_refl 0,by omega⟩ (by rw [ev_evI hp,h0,T_zero]))
 rw [ev_evI hp,ev_evI hp]
 have e2 : (ev (T p x) (M p q) - ev (T p x) (M p v)) * ev (T p x) (M p (vanZ p N U bad)) = 0 := by grind
 rcases dom hp _ _ e2 with h3|h3
 ·grind
 ·exact absurd h3 hne
section
variable {p : Int} [NeZero p.toNat]
theorem ev_list (x : Fin p.toNat) (l : List Int) {n : Nat} (hl : l.length = n) : ev x (M p l) = sumF (fun i => T p (l.getD i 0) * mono x i) n := by
 have h := ev_tab x (fun i => l.getD i 0) n
 rw [← h,← hl,tabL_of]
variable (hp : Supp p)
include hp
theorem ev_by (x : Fin p.toNat) {z a : List Int} (d : Int) (hl : z.length = a.length) : ev x (M p (byL p z d a)) = ev x (M p a) + T p d * ev x (M p z) := by
 rw [ev_list x a rfl,ev_list x z hl,← sumF_mul,← sumF_add]
 unfold byL
 rw [ev_tab]
 refine sumF_congr _ fun i hi => ?_
 rw [T_mod hp,T_add,T_mod hp,T_mul]
 grind
end
def wqL (p : Int) (z : List Int) (da db : Int) (a b : List Int) : List Int := tabL z.length fun j => (da * b.getD j 0 + db * a.getD j 0 + da * db * z.getD j 0) % p
theorem wqL_length (p : Int) (z : List Int) (da db : Int) (a b : List Int) : (wqL p z da db a b).length = z.length := tabL_length _ _
theorem wqL_res {p : Int} (hp : Supp p) (z : List Int) (da db : Int) (a b : List Int) : ∀ x ∈ wqL p z da db a b,Res p x := tabL_res fun _ _ => Res.mod hp _
theorem ev_wq {p : Int} (hp : Supp p) [NeZero p.toNat] (x : Fin p.toNat) {z a b : List Int} (da db : Int) (la : a.length = z.length) (lb : b.length = z.length) : ev x (M p (wqL p z da db a b)) = T p da * ev x (M p b) + T p db * ev x (M p a) + T p da * T p db * ev x (M p z) := by
 rw [ev_list x a la,ev_list x b lb,ev_list x z rfl,← sumF_mul,← sumF_mul,← sumF_mul,← sumF_add,← sumF_add]
 unfold wqL
 rw [ev_tab]
 refine sumF_congr _ fun i hi => ?_
 rw [T_mod hp,T_add,T_add,T_mul,T_mul,T_mul,T_mul]
 grind
def moreL (p : Int) (x y a b : List Int) : List Int := trimL (addP p (trimL (mulsL p x y x.length)) (trimL ((trimL (mulsL p a b a.length)).map fun v => (p - 1) * v % p)))
theorem moreL_res {p : Int} (hp : Supp p) (x y a b : List Int) : ∀ v ∈ moreL p x y a b,Res p v := fun v hv => by
 exact addP_res hp _ _ v (trimL_mem hv)
theorem more_ev {p : Int} (hp : Supp p) [NeZero p.toNat] (x : Fin p.toNat) (f g a b : List Int) : ev x (M p (moreL p f g a b)) = ev x (M p f) * ev x (M p g) - ev x (M p a) * ev x (M p b) := by
 unfold moreL
 have hm : ∀ l m : List Int,ev x (M p (mulsL p l m l.length)) = ev x (M p l) * ev x (M p m) := fun l m => by rw [ev_muls hp,M_take_all]
 have hn : T p (p - 1) = -1 := by
  rw [T_sub,T_one,← T_mod hp p,Int.emod_self,T_zero];grind
 rw [ev_trimL x,ev_addP hp,ev_trimL x,ev_trimL x,hm,ev_scaleL hp,ev_trimL x,hm,hn]
 grind
theorem more_len (p : Int) (x y a b : List Int) : (moreL p x y a b).length ≤ x.length + y.length + (a.length + b.length) := by
 unfold moreL
 have h1 := trimL_length (addP p (trimL (mulsL p x y x.length)) (trimL ((trimL (mulsL p a b a.length)).map fun v => (p - 1) * v % p)))
 have h2 := trimL_length (mulsL p x y x.length)
 have h3 := trimL_length ((trimL (mulsL p a b a.length)).map fun v => (p - 1) * v % p)
 have h4 := trimL_length (mulsL p a b a.length)
 have h5 := mulsL_length p x y x.length
 have h6 := mulsL_length p a b a.length
 rw [List.length_map] at h3
 have h7 := addP_length p (trimL (mulsL p x y x.length)) (trimL ((trimL (mulsL p a b a.length)).map fun v => (p - 1) * v % p))
 omega
theorem tri_div {p N U : Int} {bad : List Int} (h : OkM p N U bad) {da db : Int} {a b : List Int} (ha : ∀ x ∈ a,Res p x) (hb : ∀ x ∈ b,Res p x) (la : a.length = U.toNat + 1) (lb : b.length = U.toNat + 1) :
  ∃ q r : List Int,Ev (fun k => poly_DivMod.f k p (moreL p (byL p (vanZ p N U bad) da a) (byL p (vanZ p N U bad) db b) a b) (vanZ p N U bad)) (q,r,0) ∧ (∀ x ∈ q,Res p x) ∧ q.length ≤ 1000 ∧ ∀ j,q.getD j 0 = (wqL p (vanZ p N U bad) da db a b).getD j 0 := by
 have hp := h.ok.hp
 haveI := nz hp
 have ht := h.t
 have hzl := vanZ_length h.ok
 have hzr : ∀ x ∈ vanZ p N U bad,Res p x := van_res hp h.ok.van
 have hlast : (vanZ p N U bad).getD ((vanZ p N U bad).length - 1) 0 ≠ 0 := by
  have h1 := van_last hp h.ok.van
  have h2 := extB_length h.ok.coa
  rwa [show (vanZ p N U bad).length - 1 = (extB N U bad).length by omega]
 have hml := more_len p (byL p (vanZ p N U bad) da a) (byL p (vanZ p N U bad) db b) a b
 rw [byL_length,byL_length] at hml
 obtain ⟨q,r,hev,hq,hr,lq,lr,e⟩ := dm_ev hp (a := moreL p (byL p (vanZ p N U bad) da a) (byL p (vanZ p N U bad) db b) a b) (b := vanZ p N U bad) (moreL_res hp _ _ _ _) hzr (by omega) (by omega) (by omega) hlast
 refine ⟨q,r,hev,hq,by omega,fun j => ?_⟩
 have hu := quot_uniq h hq hr (wqL_res hp (vanZ p N U bad) da db a b) (by omega) (by omega) (by rw [wqL_length];omega) (fun x => by
  rw [← e x,more_ev hp,ev_by hp x da (by omega),ev_by hp x db (by omega),ev_wq hp x da db (by omega) (by omega)]
  grind)
 rw [← trimL_getD q j,hu,trimL_getD]
end Go.Proofs.Ytejeelpnmdfibaa.E
end
section
namespace Go.Proofs.Ytejeelpnmdfibaa.Hw
open Go.RowKit Go.Proofs.Ytejeelpnmdfibaa.Pr Go.Proofs.Ytejeelpnmdfibaa.Pl Go.Proofs.YtejeelpnmdfibaaW.PrintWords Go.Proofs.YtejeelpnmdfibaaW.PrintLast Go.Proofs.YtejeelpnmdfibaaW.PrintMore Go.Proofs.Ytejeelpnmdfibaa.E
set_option linter.unusedVariables false
set_option linter.unusedSimpArgs false
def triW (p N T : Int) (bad : List Int) (da db : Int) (head : List Int) : List Int := wqL p (vanZ p N T bad) da db (head.take (T.toNat + 1)) ((head.drop (T.toNat + 1)).take (T.toNat + 1))
def triD (p N T : Int) (bad : List Int) (da db : Int) (head : List Int) (m : Nat) : List Int := byL p (vanZ p N T bad) ((triW p N T bad da db head).getD m 0) ((head.drop (2 * (T.toNat + 1) + (m - 1) * T.toNat)).take T.toNat)
def triE (p N T : Int) (bad : List Int) (da db : Int) (head rests : List Int) (m : Nat) : List Int := byL p (wL p T (vanZ p N T bad)) ((triW p N T bad da db head).getD m 0) ((rests.drop ((if m = 0 then T.toNat + 2 else m + 1) * (T.toNat * (T.toNat + 1) / 2))).take (T.toNat * (T.toNat + 1) / 2))
def triH (p N T : Int) (bad : List Int) (da db : Int) (head : List Int) : List Int := byL p (vanZ p N T bad) da (head.take (T.toNat + 1)) ++ byL p (vanZ p N T bad) db ((head.drop (T.toNat + 1)).take (T.toNat + 1)) ++ catF (triD p N T bad da db head) T.toNat
def triR (p N T : Int) (bad : List Int) (da db : Int) (head rests : List Int) : List Int := byL p (wL p T (vanZ p N T bad)) da (rests.take (T.toNat * (T.toNat + 1) / 2)) ++ byL p (wL p T (vanZ p N T bad)) db ((rests.drop (T.toNat * (T.toNat + 1) / 2)).take (T.toNat * (T.toNat + 1) / 2)) ++ catF (triE p N T bad da db head rests) T.toNat ++ triE p N T bad da db head rests 0
def tapeshift_Triple.f (p N T : Int) (bad : List Int) (da db : Int) (head rests : List Int) : Option (List Int × List Int) :=
 if mayB p N T bad = true then (if resB p da = true then (if resB p db = true then (if ressB p head = true then (if ressB p rests = true then (if head.length = 2 * (T.toNat + 1) + T.toNat * T.toNat then (if rests.length = (T.toNat + 3) * (T.toNat * (T.toNat + 1) / 2) then some (triH p N T bad da db head,triR p N T bad da db head rests) else none) else none) else none) else none) else none) else none) else none
theorem res_take {p : Int} {l : List Int} (h : ∀ x ∈ l,Res p x) (n : Nat) : ∀ x ∈ l.take n,Res p x := fun x hx => h x (List.mem_of_mem_take hx)
theorem res_drop {p : Int} {l : List Int} (h : ∀ x ∈ l,Res p x) (n : Nat) : ∀ x ∈ l.drop n,Res p x := fun x hx => h x (List.mem_of_mem_drop hx)
theorem rest_eq {p N T : Int} {bad : List Int} (h : OkM p N T bad) {d : Int} (hd : Res p d) {r : List Int} (hr : ∀ x ∈ r,Res p x) (lr : r.length = T.toNat * (T.toNat + 1) / 2) : tapeshift_mover_rest.f p T (vanZ p N T bad) d r = some (byL p (wL p T (vanZ p N T bad)) d r) := by
 have hp := h.ok.hp
 have hT := h.t
 have hzl := vanZ_length h.ok
 have hzr : ∀ x ∈ vanZ p N T bad,Res p x := van_res hp h.ok.van
 have hm := mov_by (p := p) (d := d) (z := vanZ p N T bad) hT lr
 have hml : (movI p d T.toNat (vanZ p N T bad) r T.toNat 1 0).length = r.length := by rw [hm,byL_length]
 have h3 : r.length ≤ 3 := by rw [lr];rcases hT with rfl|rfl <;> decide
 unfold tapeshift_mover_rest.f
 rw [if_pos (supB_iff.2 hp),if_pos (by omega),if_pos (by omega),if_pos (resB_iff.2 hd),if_pos (ressB_iff.2 hzr),if_pos (by omega),if_pos (ressB_iff.2 hr),if_pos (by rw [hml];exact Nat.le_refl _),if_pos (by omega),hm]
theorem mul_eq {p : Int} (hp : Supp p) {a b : List Int} (ha : ∀ x ∈ a,Res p x) (hb : ∀ x ∈ b,Res p x) (la : a.length ≤ 1000) (lb : b.length ≤ 1000) : poly_Mul.f p a b = some (trimL (mulsL p a b a.length)) := by
 unfold poly_Mul.f
 rw [if_pos (supB_iff.2 hp),if_pos (ressB_iff.2 ha),if_pos (ressB_iff.2 hb),if_pos (by omega),if_pos (by omega)]
theorem psub_ev {p : Int} (hp : Supp p) {a b : List Int} (ha : ∀ x ∈ a,Res p x) (hb : ∀ x ∈ b,Res p x) (la : a.length ≤ 1000) (lb : b.length ≤ 1000) : Ev (fun k => poly_Sub.f k p a b) (trimL (addP p a (trimL (b.map fun v => (p - 1) * v % p)))) := by
 have hb31 := hp.bd
 have hw : IntKind.u64.wrap (p - 1) = p - 1 := wrapU_id (by omega) (by omega)
 have hr : ∀ x ∈ trimL (b.map fun v => (p - 1) * v % p),Res p x := fun x hx => by
  obtain ⟨y,_,rfl⟩ := List.mem_map.1 (trimL_mem hx)
  exact Res.mod hp _
 have hl := trimL_length (b.map fun v => (p - 1) * v % p)
 rw [List.length_map] at hl
 unfold poly_Sub.f
 rw [hw]
 exact Ev.bind (scale_ev hp ⟨by omega,by omega⟩ b hb (by omega)) (ev_now_bind (padd_eq hp ha hr (by omega) (by omega)) (Ev.now _))
theorem of_ev {p N T : Int} {bad : List Int} (h : Ok12 p N T bad) : Ev (fun k => tapeshift_of.f k p N T bad) (p,T,vanZ p N T bad) := by
 unfold tapeshift_of.f
 exact Ev.bind (f := fun _ t => some (p,T,t)) (vanpol_ev h) (Ev.now _)
theorem tapeshift_Triple.calls (p N T : Int) (Ab : Option Addr) (cb : Nat) (bad : List Int) (da db : Int) (Ah : Option Addr) (ch : Nat) (head : List Int) (Ar : Option Addr) (cr : Nat) (rests r1 r2 : List Int) (w : World)
  (hrb : Kd.C (Kd.int .i64) w Ab bad.length bad) (hcb : bad.length ≤ cb) (hrh : Kd.C (Kd.int .u64) w Ah head.length head) (hch : head.length ≤ ch) (hrr : Kd.C (Kd.int .u64) w Ar rests.length rests) (hcr : rests.length ≤ cr)
  (h : tapeshift_Triple.f p N T bad da db head rests = some (r1,r2)) :
  Calls Try.prog 25 #[.agg #[.int .u64 p,.int .i64 N,.int .i64 T],.slice Ab bad.length cb,.int .u64 da,.int .u64 db,.slice Ah head.length ch,.slice Ar rests.length cr] w fun e w' => ∃ v0_ v1_ : Value,e = .returned (.tuple #[v0_,v1_]) ∧ Kd.R (Kd.int .u64) 22 w' w.heap.size (fun k_ => some k_ ≠ (v1_ : Value).ownBlock) v0_ r1 ∧ Kd.R (Kd.int .u64) 22 w' w.heap.size (fun k_ => some k_ ≠ (v0_ : Value).ownBlock) v1_ r2 ∧ Below w.heap.size w w' := by
 unfold tapeshift_Triple.f at h
 obtain ⟨h1,h⟩ := ifs h
 obtain ⟨h2,h⟩ := ifs h
 obtain ⟨h3,h⟩ := ifs h
 obtain ⟨h4,h⟩ := ifs h
 obtain ⟨h5,h⟩ := ifs h
 obtain ⟨h6,h⟩ := ifs h
 obtain ⟨h7,h⟩ := ifs h
 simp only [Option.some.injEq,Prod.mk.injEq] at h
 obtain ⟨rfl,rfl⟩ := h
 have hm := okM h1
 have hp := hm.ok.hp
 have hT := hm.t
 have rda := resB_iff.1 h2
 have rdb := resB_iff.1 h3
 have rh := ressB_iff.1 h4
 have rr := ressB_iff.1 h5
 have hzl := vanZ_length hm.ok
 have hzr : ∀ x ∈ vanZ p N T bad,Res p x := van_res hp hm.ok.van
 obtain ⟨t,ht⟩ : ∃ t : Nat,T = (t : Int) := ⟨T.toNat,by omega⟩
 subst ht
 have hT2 : t = 1 ∨ t = 2 := by omega
 simp only [Int.toNat_natCast] at h6 h7
 obtain ⟨O,hO⟩ : ∃ O,O = t * (t + 1) / 2 := ⟨_,rfl⟩
 rw [← hO] at h7
 have hO3 : (t = 1 ∧ O = 1) ∨ (t = 2 ∧ O = 3) := by
  rcases hT2 with e|e
  ·rw [e] at hO;exact Or.inl ⟨e,hO⟩
  ·rw [e] at hO;exact Or.inr ⟨e,hO⟩
 have hl6 : (t = 1 ∧ head.length = 5) ∨ (t = 2 ∧ head.length = 10) := by
  rcases hT2 with e|e
  ·rw [e] at h6;exact Or.inl ⟨e,h6⟩
  ·rw [e] at h6;exact Or.inr ⟨e,h6⟩
 have hl7 : (t = 1 ∧ rests.length = 4) ∨ (t = 2 ∧ rests.length = 15) := by
  rcases hO3 with ⟨e,e'⟩|⟨e,e'⟩
  ·rw [e,e'] at h7;exact Or.inl ⟨e,h7⟩
  ·rw [e,e'] at h7;exact Or.inr ⟨e,h7⟩
 have la : (head.take (t + 1)).length = t + 1 := by rw [List.length_take];omega
 have lb : ((head.drop (t + 1)).take (t + 1)).length = t + 1 := by rw [List.length_take,List.length_drop];omega
 have ra := res_take rh (t + 1)
 have rb := res_take (res_drop rh (t + 1)) (t + 1)
 have rW : ∀ x ∈ triW p N t bad da db head,Res p x := wqL_res hp _ _ _ _ _
 obtain ⟨kz,ez⟩ := (of_ev hm.ok).rounds
 obtain ⟨ka,ea⟩ := (by_ev hp t hzr ra (by omega) (by omega) rda).rounds
 obtain ⟨kb,eb⟩ := (by_ev hp t hzr rb (by omega) (by omega) rdb).rounds
 have hna := byL_res hp (vanZ p N t bad) da (head.take (t + 1))
 have hnb := byL_res hp (vanZ p N t bad) db ((head.drop (t + 1)).take (t + 1))
 have e1 := mul_eq hp hna hnb (by rw [byL_length];omega) (by rw [byL_length];omega)
 have e2 := mul_eq hp ra rb (by omega) (by omega)
 have l1 := trimL_length (mulsL p (byL p (vanZ p N t bad) da (head.take (t + 1))) (byL p (vanZ p N t bad) db ((head.drop (t + 1)).take (t + 1))) (byL p (vanZ p N t bad) da (head.take (t + 1))).length)
 have l1' := mulsL_length p (byL p (vanZ p N t bad) da (head.take (t + 1))) (byL p (vanZ p N t bad) db ((head.drop (t + 1)).take (t + 1))) (byL p (vanZ p N t bad) da (head.take (t + 1))).length
 have l2 := trimL_length (mulsL p (head.take (t + 1)) ((head.drop (t + 1)).take (t + 1)) (head.take (t + 1)).length)
 have l2' := mulsL_length p (head.take (t + 1)) ((head.drop (t + 1)).take (t + 1)) (head.take (t + 1)).length
 rw [byL_length,byL_length] at l1'
 rw [byL_length] at l1
 obtain ⟨ks,es⟩ := (psub_ev hp (a := trimL (mulsL p (byL p (vanZ p N t bad) da (head.take (t + 1))) (byL p (vanZ p N t bad) db ((head.drop (t + 1)).take (t + 1))) (byL p (vanZ p N t bad) da (head.take (t + 1))).length)) (b := trimL (mulsL p (head.take (t + 1)) ((head.drop (t + 1)).take (t + 1)) (head.take (t + 1)).length)) (fun x hx => mulsL_res hp _ _ _ x (trimL_mem hx)) (fun x hx => mulsL_res hp _ _ _ x (trimL_mem hx)) (by rw [byL_length];omega) (by omega)).rounds
 obtain ⟨q,r,ed,rq,lq,hq⟩ := tri_div hm (da := da) (db := db) ra rb (by rw [la];omega) (by rw [lb];omega)
 obtain ⟨kd,ed⟩ := ed.rounds
 have hcf : ∀ j,q.getD j 0 = (triW p N t bad da db head).getD j 0 := fun j => by
  rw [hq j];unfold triW;rw [Int.toNat_natCast]
 have hby : ∀ j,∃ k,j < t → tapeshift_mover_by.f k p (t : Int) (vanZ p N t bad) ((triW p N t bad da db head).getD (j + 1) 0) ((head.drop (2 * (t + 1) + j * t)).take t) = some (triD p N t bad da db head (j + 1)) := fun j => by
  by_cases hj : j < t
  ·obtain ⟨k,ek⟩ := (by_ev hp t hzr (res_take (res_drop rh (2 * (t + 1) + j * t)) t) (by have := List.length_take_le t (head.drop (2 * (t + 1) + j * t));omega) (by have := List.length_take_le t (head.drop (2 * (t + 1) + j * t));omega) (res_getD hp rW (j + 1))).rounds
   refine ⟨k,fun _ => ek.trans ?_⟩
   unfold triD
   rw [Int.toNat_natCast,Nat.add_sub_cancel]
  ·exact ⟨0,fun h => absurd h hj⟩
 have hRl : ∀ m,m + O ≤ rests.length → ((rests.drop m).take O).length = (t : Int).toNat * ((t : Int).toNat + 1) / 2 := fun m hm => by
  rw [List.length_take,List.length_drop,Int.toNat_natCast,← hO];omega
 have hmt : ∀ j,j < t → (j + 2) * O + O ≤ (t + 3) * O := fun j hj => by
  have := Nat.mul_le_mul_right O (show j + 2 + 1 ≤ t + 3 by omega)
  rwa [Nat.succ_mul] at this
 have hmt2 : (t + 2) * O + O ≤ (t + 3) * O := by
  exact Nat.le_of_eq (Nat.succ_mul (t + 2) O).symm
 have hw := triple_walk p N t hT2 Ab cb bad da db Ah ch head Ar cr rests (vanZ p N t bad) (byL p (vanZ p N t bad) da (head.take (t + 1))) (byL p (vanZ p N t bad) db ((head.drop (t + 1)).take (t + 1))) _ _ _ q r 0 kz ka kb ks kd (fun j => (hby j).choose) (fun j => q.getD j 0) (triD p N t bad da db head) (triE p N t bad da db head rests)
  (byL p (wL p t (vanZ p N t bad)) da (rests.take O)) (byL p (wL p t (vanZ p N t bad)) db ((rests.drop O).take O)) w hrb hcb hrh hch hrr hcr h6 (by rw [← hO];exact h7) ez ea eb e1 e2 es ed (fun j _ => coef_eq q j)
  (fun j hj => by rw [hcf];exact (hby j).choose_spec hj)
  (by rw [← hO];exact rest_eq hm rda (res_take rr O) (by have := hRl 0 (by omega);rwa [List.drop_zero] at this))
  (by rw [← hO];exact rest_eq hm rdb (res_take (res_drop rr O) O) (hRl O (by omega)))
  (fun j hj => by
   rw [← hO,hcf]
   refine (rest_eq hm (res_getD hp rW (j + 1)) (res_take (res_drop rr ((j + 2) * O)) O) (hRl _ (by have := hmt j hj;omega))).trans ?_
   unfold triE
   rw [Int.toNat_natCast,← hO,if_neg (by omega)])
  (by
   rw [← hO]
   show tapeshift_mover_rest.f p t (vanZ p N t bad) (q.getD 0 0) _ = _
   rw [hcf]
   refine (rest_eq hm (res_getD hp rW 0) (res_take (res_drop rr ((t + 2) * O)) O) (hRl _ (by omega))).trans ?_
   unfold triE
   rw [Int.toNat_natCast,← hO,if_pos rfl])
  (by rw [byL_length,la]) (by rw [byL_length,lb]) lq
  (fun j _ => by unfold triD;rw [byL_length,Int.toNat_natCast];have := List.length_take_le t (head.drop (2 * (t + 1) + (j - 1) * t));omega)
  (fun j _ => by unfold triE;rw [byL_length,Int.toNat_natCast,← hO];have := List.length_take_le O (rests.drop ((if j = 0 then t + 2 else j + 1) * O));omega)
  (by rw [byL_length];have := List.length_take_le O rests;omega)
  (by rw [byL_length];have := List.length_take_le O (rests.drop O);omega)
 refine hw.mono ?_
 rintro e w' ⟨v0,v1,rfl,a1,a2,a3⟩
 refine ⟨v0,v1,rfl,?_,?_,a3⟩
 ·unfold triH
  rw [Int.toNat_natCast]
  exact a1
 ·unfold triR
  rw [Int.toNat_natCast,← hO]
  exact a2
end Go.Proofs.Ytejeelpnmdfibaa.Hw
end
section
namespace Go.Proofs.Ytejeelpnmdfibaa.Pr
open Go.RowKit Go.Proofs.YtejeelpnmdfibaaW.PrintWords Go.Proofs.YtejeelpnmdfibaaW.PrintLast Go.Proofs.YtejeelpnmdfibaaW.PrintMore
attribute [local go_sem] max2_int min2_int max_two min_two max_three min_three max_four min_four
set_option linter.unusedVariables false
set_option linter.unusedSimpArgs false
open Go.Proofs.Ytejeelpnmdfibaa.Hw
def privitylaw43_TapeshiftShift.f (k : Nat) (a0_0 : Int) (a0_1 : Int) (a0_2 : Int) (l0_3 : List Int) (a0_4 : Int) (a0_5 : Int) (l0_6 : List Int) : Option (Bool) := (privitylaw43_may.f k a0_0 a0_1 a0_2 l0_3 a0_4 a0_5 l0_6).bind fun t745 => (if t745 = true then (if a0_0 = 0 then (none) else ((privitylaw43_one.f k a0_0 a0_1 a0_2 l0_3 a0_4 a0_5 l0_6).bind fun bt747 => ((tapeshift_Sharing.f k a0_0 a0_1 a0_2 l0_3 (Int.tmod a0_4 a0_0) bt747.1 bt747.2).bind fun bt753 => ((privityref43_Sharing.f k a0_0 a0_1 a0_2 l0_3 (Int.tmod a0_4 a0_0) bt747.1 bt747.2).bind fun bt759 => ((privitylaw43_triple.f k a0_0 a0_1 a0_2 l0_3 a0_4 a0_5 l0_6).bind fun bt765 => ((tapeshift_Triple.f a0_0 a0_1 a0_2 l0_3 (Int.tmod a0_4 a0_0) (Int.tmod a0_5 a0_0) bt765.1 bt765.2).bind fun bt771 => ((privityref43_Triple.f k a0_0 a0_1 a0_2 l0_3 (Int.tmod a0_4 a0_0) (Int.tmod a0_5 a0_0) bt765.1 bt765.2).bind fun bt777 => ((privitylaw43_awake.f k).bind fun t783 => (if t783 = true then ((privityref14_Words.f k bt753.1 bt759.1).bind fun t784 => (if t784 = true then ((privityref14_Words.f k bt753.2 bt759.2).bind fun t785 => (if t785 = true then ((privityref14_Words.f k bt771.1 bt777.1).bind fun t786 => (if t786 = true then ((privityref14_Words.f k bt771.2 bt777.2).bind fun t787 => (some t787)) else (some false))) else (some false))) else (some false))) else (some false)))))))))) else ((privitylaw43_awake.f k).bind fun t746 => (some t746)))
set_option maxHeartbeats 8000000 in
set_option maxRecDepth 100000 in
theorem privitylaw43_TapeshiftShift.calls (k : Nat) (a0_0 : Int) (a0_1 : Int) (a0_2 : Int) (A0_3 : Option Addr) (c0_3 : Nat) (l0_3 : List Int) (a0_4 : Int) (a0_5 : Int) (A0_6 : Option Addr) (c0_6 : Nat) (l0_6 : List Int) (r : Bool) (w : World) (hr0_3 : Kd.C (Kd.int .i64) w A0_3 l0_3.length l0_3) (hc0_3 : l0_3.length ≤ c0_3) (hr0_6 : Kd.C (Kd.int .u64) w A0_6 l0_6.length l0_6) (hc0_6 : l0_6.length ≤ c0_6) (hr1_ : r = true) (h : privitylaw43_TapeshiftShift.f k a0_0 a0_1 a0_2 l0_3 a0_4 a0_5 l0_6 = some r) :
  Calls Try.prog 6 #[.agg #[.int .u64 a0_0,.int .i64 a0_1,.int .i64 a0_2,.slice A0_3 l0_3.length c0_3,.int .u64 a0_4,.int .u64 a0_5,.slice A0_6 l0_6.length c0_6]] w fun e w' => e = .returned (.bool r) ∧ Below w.heap.size w w' := by
 have HRT_ := Aside0.mk hr1_
 clear hr1_
 have hu28 := Try.underlying28
 have hu24 := Try.underlying24
 have HR0_3 := Aside0.mk hr0_3
 have HC0_3 := Aside0.mk hc0_3
 clear hr0_3 hc0_3
 have HR0_6 := Aside0.mk hr0_6
 have HC0_6 := Aside0.mk hc0_6
 clear hr0_6 hc0_6
 have HB := Aside0.mk (Below.refl w.heap.size w)
 have H : ((privitylaw43_may.f k a0_0 a0_1 a0_2 l0_3 a0_4 a0_5 l0_6).bind fun t745 => (if t745 = true then (if a0_0 = 0 then (none) else ((privitylaw43_one.f k a0_0 a0_1 a0_2 l0_3 a0_4 a0_5 l0_6).bind fun bt747 => ((tapeshift_Sharing.f k a0_0 a0_1 a0_2 l0_3 (Int.tmod a0_4 a0_0) bt747.1 bt747.2).bind fun bt753 => ((privityref43_Sharing.f k a0_0 a0_1 a0_2 l0_3 (Int.tmod a0_4 a0_0) bt747.1 bt747.2).bind fun bt759 => ((privitylaw43_triple.f k a0_0 a0_1 a0_2 l0_3 a0_4 a0_5 l0_6).bind fun bt765 => ((tapeshift_Triple.f a0_0 a0_1 a0_2 l0_3 (Int.tmod a0_4 a0_0) (Int.tmod a0_5 a0_0) bt765.1 bt765.2).bind fun bt771 => ((privityref43_Triple.f k a0_0 a0_1 a0_2 l0_3 (Int.tmod a0_4 a0_0) (Int.tmod a0_5 a0_0) bt765.1 bt765.2).bind fun bt777 => ((privitylaw43_awake.f k).bind fun t783 => (if t783 = true then ((privityref14_Words.f k bt753.1 bt759.1).bind fun t784 => (if t784 = true then ((privityref14_Words.f k bt753.2 bt759.2).bind fun t785 => (if t785 = true then ((privityref14_Words.f k bt771.1 bt777.1).bind fun t786 => (if t786 = true then ((privityref14_Words.f k bt771.2 bt777.2).bind fun t787 => (some t787)) else (some false))) else (some false))) else (some false))) else (some false)))))))))) else ((privitylaw43_awake.f k).bind fun t746 => (some t746)))) = some r := h
 clear h
 replace H := Option.bind_eq_some_iff.mp H
 obtain ⟨t745,A20,H⟩ := H
 try dsimp only at H
 have A2 := Aside0.mk A20
 clear A20
 by_cases c3 : t745 = true
 ·subst c3
  rw [if_pos rfl] at H
  by_cases c4 : a0_0 = 0
  ·rw [if_pos c4] at H
   exact absurd H (by simp)
  ·rw [if_neg c4] at H
   have c4b0 : (a0_0 == 0) = false := beq_eq_false_iff_ne.mpr c4
   have c4b1 : (a0_0 != 0) = true := bne_iff_ne.mpr c4
   replace H := Option.bind_eq_some_iff.mp H
   obtain ⟨⟨t747,t750⟩,A50,H⟩ := H
   try dsimp only at H
   have A5 := Aside0.mk A50
   clear A50
   replace H := Option.bind_eq_some_iff.mp H
   obtain ⟨⟨t753,t756⟩,A60,H⟩ := H
   try dsimp only at H
   have A6 := Aside0.mk A60
   clear A60
   replace H := Option.bind_eq_some_iff.mp H
   obtain ⟨⟨t759,t762⟩,A70,H⟩ := H
   try dsimp only at H
   have A7 := Aside0.mk A70
   clear A70
   replace H := Option.bind_eq_some_iff.mp H
   obtain ⟨⟨t765,t768⟩,A80,H⟩ := H
   try dsimp only at H
   have A8 := Aside0.mk A80
   clear A80
   replace H := Option.bind_eq_some_iff.mp H
   obtain ⟨⟨t771,t774⟩,A90,H⟩ := H
   try dsimp only at H
   have A9 := Aside0.mk A90
   clear A90
   replace H := Option.bind_eq_some_iff.mp H
   obtain ⟨⟨t777,t780⟩,A100,H⟩ := H
   try dsimp only at H
   have A10 := Aside0.mk A100
   clear A100
   replace H := Option.bind_eq_some_iff.mp H
   obtain ⟨t783,A110,H⟩ := H
   try dsimp only at H
   have A11 := Aside0.mk A110
   clear A110
   by_cases c12 : t783 = true
   ·subst c12
    rw [if_pos rfl] at H
    replace H := Option.bind_eq_some_iff.mp H
    obtain ⟨t784,A130,H⟩ := H
    try dsimp only at H
    have A13 := Aside0.mk A130
    clear A130
    by_cases c14 : t784 = true
    ·subst c14
     rw [if_pos rfl] at H
     replace H := Option.bind_eq_some_iff.mp H
     obtain ⟨t785,A150,H⟩ := H
     try dsimp only at H
     have A15 := Aside0.mk A150
     clear A150
     by_cases c16 : t785 = true
     ·subst c16
      rw [if_pos rfl] at H
      replace H := Option.bind_eq_some_iff.mp H
      obtain ⟨t786,A170,H⟩ := H
      try dsimp only at H
      have A17 := Aside0.mk A170
      clear A170
      by_cases c18 : t786 = true
      ·subst c18
       rw [if_pos rfl] at H
       replace H := Option.bind_eq_some_iff.mp H
       obtain ⟨t787,A190,H⟩ := H
       try dsimp only at H
       have A19 := Aside0.mk A190
       clear A190
       obtain rfl := Option.some.inj H
       go_enter Try.func6,Try.ntmps6
       go_wp2_with (first|((with_reducible refine gate_dst (N := 1) rfl ?_);refine box_event ?hg (N := 1) ?hd (cs := #[.int .u64 a0_0,.int .i64 a0_1,.int .i64 a0_2,.slice A0_3 l0_3.length c0_3,.int .u64 a0_4,.int .u64 a0_5,.slice A0_6 l0_6.length c0_6]) (t := 28) ?hr ?_;(case hd => rfl);(case hg => rfl);(case hr => first|(go_simp;done)|(go_simp;rfl));intro gb744 hg w20 hbox hb;have n0_ := Aside0.mk (below_step (bb HB) hb);have n1_ := Aside0.mk (hbox);have n2_ := Aside0.mk ((by rw [hg];exact (below_size (bb HB)) : w.heap.size ≤ gb744));have n3_ := Aside0.mk ((by rw [hg];exact (below_size (bb HB)) : w.heap.size ≤ gb744));clear HB;have HB := n0_;have BK744 := n1_;have GW744 := n2_;have GE744 := n3_;clear n0_ n1_ n2_ n3_;clear hb hbox hg;have hcz21_0 := bc BK744 0;have hcz21_1 := bc BK744 1;have hcz21_2 := bc BK744 2;have hcz21_3 := bc BK744 3;have hcz21_4 := bc BK744 4;have hcz21_5 := bc BK744 5;have hcz21_6 := bc BK744 6;have hfz21_0 := blk_frozen BK744.out 0;have hfz21_1 := blk_frozen BK744.out 1;have hfz21_2 := blk_frozen BK744.out 2;have hfz21_3 := blk_frozen BK744.out 3;have hfz21_4 := blk_frozen BK744.out 4;have hfz21_5 := blk_frozen BK744.out 5;have hfz21_6 := blk_frozen BK744.out 6)|(go_at_call 12;(with_reducible refine (privitylaw43_may.calls k a0_0 a0_1 a0_2 _ _ l0_3 a0_4 a0_5 _ _ l0_6 true _ ?side1 ?side2 ?side3 ?side4 A2.out).mono ?_);(case side1 => exact cb HR0_3 HB);(case side2 => exact HC0_3.out);(case side3 => exact cb HR0_6 HB);(case side4 => exact HC0_6.out);rintro e w22 ⟨rfl,hb⟩;have n0_ := Aside0.mk (kb BK744 hb);have n1_ := Aside0.mk (below_step (bg HB GE744) hb);clear BK744 HB;have BK744 := n0_;have HB := n1_;clear n0_ n1_;(try clear hb);(try clear hb2);(try clear hk);(try clear hi);have hcz23_0 := bc BK744 0;have hcz23_1 := bc BK744 1;have hcz23_2 := bc BK744 2;have hcz23_3 := bc BK744 3;have hcz23_4 := bc BK744 4;have hcz23_5 := bc BK744 5;have hcz23_6 := bc BK744 6;have hfz23_0 := blk_frozen BK744.out 0;have hfz23_1 := blk_frozen BK744.out 1;have hfz23_2 := blk_frozen BK744.out 2;have hfz23_3 := blk_frozen BK744.out 3;have hfz23_4 := blk_frozen BK744.out 4;have hfz23_5 := blk_frozen BK744.out 5;have hfz23_6 := blk_frozen BK744.out 6))
       repeat (go_quiet (first|fail);try go_wp2_with (first|(go_at_call 14;(with_reducible refine (privitylaw43_one.calls k a0_0 a0_1 a0_2 _ _ l0_3 a0_4 a0_5 _ _ l0_6 t747 t750 _ ?side1 ?side2 ?side3 ?side4 A5.out).mono ?_);(case side1 => exact cb HR0_3 HB);(case side2 => exact HC0_3.out);(case side3 => exact cb HR0_6 HB);(case side4 => exact HC0_6.out);rintro e w24 ⟨v748,v751,rfl,ho0,ho1,hb⟩;have n0_ := Aside0.mk (Kd.R_lower ho0 (below_size (bg HB GE744)));have n1_ := Aside0.mk (Kd.R_lower ho1 (below_size (bg HB GE744)));have n2_ := Aside0.mk (kb BK744 hb);have n3_ := Aside0.mk (below_step (bg HB GE744) hb);clear BK744 HB;have HO749 := n0_;have HO752 := n1_;have BK744 := n2_;have HB := n3_;clear n0_ n1_ n2_ n3_;(try clear hb);(try clear hb2);(try clear hk);(try clear hi);(try clear ho0);(try clear ho1);have hcz25_0 := bc BK744 0;have hcz25_1 := bc BK744 1;have hcz25_2 := bc BK744 2;have hcz25_3 := bc BK744 3;have hcz25_4 := bc BK744 4;have hcz25_5 := bc BK744 5;have hcz25_6 := bc BK744 6;have hfz25_0 := blk_frozen BK744.out 0;have hfz25_1 := blk_frozen BK744.out 1;have hfz25_2 := blk_frozen BK744.out 2;have hfz25_3 := blk_frozen BK744.out 3;have hfz25_4 := blk_frozen BK744.out 4;have hfz25_5 := blk_frozen BK744.out 5;have hfz25_6 := blk_frozen BK744.out 6;obtain ⟨Ao26,co26,eo26⟩ := Kd.R_slice HO749.out;subst eo26;obtain ⟨Ao27,co27,eo27⟩ := Kd.R_slice HO752.out;subst eo27)|(go_at_call 15;(with_reducible refine (tapeshift_Sharing.calls k a0_0 a0_1 a0_2 _ _ l0_3 (Int.tmod a0_4 a0_0) _ _ t747 _ _ t750 t753 t756 _ ?side1 ?side2 ?side3 ?side4 ?side5 ?side6 A6.out).mono ?_);(case side1 => exact cb HR0_3 HB);(case side2 => exact HC0_3.out);(case side3 => exact cr HO749);(case side4 => exact (Kd.R_reads' HO749.out).2.1);(case side5 => exact cr HO752);(case side6 => exact (Kd.R_reads' HO752.out).2.1);rintro e w28 ⟨v754,v757,rfl,ho0,ho1,hb⟩;have n0_ := Aside0.mk (Kd.R_mono (Kd.R_told (Kd.R_told (Kd.R_old (rr HO749) hb) (Kd.R_base ho0)) (Kd.R_base ho1)) (fun _ h_ => h_.1));have n1_ := Aside0.mk (Kd.R_mono (Kd.R_told (Kd.R_told (Kd.R_old (rr HO752) hb) (Kd.R_base ho0)) (Kd.R_base ho1)) (fun _ h_ => h_.1));have n2_ := Aside0.mk (Kd.R_lower (Kd.R_new' (Kd.R_new' ho0 (Kd.R_lt (rr HO749))) (Kd.R_lt (rr HO752))) (below_size (bg HB GE744)));have n3_ := Aside0.mk (Kd.R_lower (Kd.R_new' (Kd.R_new' ho1 (Kd.R_lt (rr HO749))) (Kd.R_lt (rr HO752))) (below_size (bg HB GE744)));have n4_ := Aside0.mk (kb BK744 hb);have n5_ := Aside0.mk (below_step (bg HB GE744) hb);clear HO749 HO752 BK744 HB;have HO749 := n0_;have HO752 := n1_;have HO755 := n2_;have HO758 := n3_;have BK744 := n4_;have HB := n5_;clear n0_ n1_ n2_ n3_ n4_ n5_;(try clear hb);(try clear hb2);(try clear hk);(try clear hi);(try clear ho0);(try clear ho1);have hcz29_0 := bc BK744 0;have hcz29_1 := bc BK744 1;have hcz29_2 := bc BK744 2;have hcz29_3 := bc BK744 3;have hcz29_4 := bc BK744 4;have hcz29_5 := bc BK744 5;have hcz29_6 := bc BK744 6;have hfz29_0 := blk_frozen BK744.out 0;have hfz29_1 := blk_frozen BK744.out 1;have hfz29_2 := blk_frozen BK744.out 2;have hfz29_3 := blk_frozen BK744.out 3;have hfz29_4 := blk_frozen BK744.out 4;have hfz29_5 := blk_frozen BK744.out 5;have hfz29_6 := blk_frozen BK744.out 6)|(go_at_call 23;(with_reducible refine (privityref43_Sharing.calls k a0_0 a0_1 a0_2 _ _ l0_3 (Int.tmod a0_4 a0_0) _ _ t747 _ _ t750 t759 t762 _ ?side1 ?side2 ?side3 ?side4 ?side5 ?side6 A7.out).mono ?_);(case side1 => exact cb HR0_3 HB);(case side2 => exact HC0_3.out);(case side3 => exact cr HO749);(case side4 => exact (Kd.R_reads' HO749.out).2.1);(case side5 => exact cr HO752);(case side6 => exact (Kd.R_reads' HO752.out).2.1);rintro e w30 ⟨v760,v763,rfl,ho0,ho1,hb⟩;have n0_ := Aside0.mk (Kd.R_mono (Kd.R_told (Kd.R_told (Kd.R_old (rr HO749) hb) (Kd.R_base ho0)) (Kd.R_base ho1)) (fun _ h_ => h_.1));have n1_ := Aside0.mk (Kd.R_mono (Kd.R_told (Kd.R_told (Kd.R_old (rr HO752) hb) (Kd.R_base ho0)) (Kd.R_base ho1)) (fun _ h_ => h_.1));have n2_ := Aside0.mk (Kd.R_mono (Kd.R_told (Kd.R_told (Kd.R_old (rr HO755) hb) (Kd.R_base ho0)) (Kd.R_base ho1)) (fun _ h_ => h_.1));have n3_ := Aside0.mk (Kd.R_mono (Kd.R_told (Kd.R_told (Kd.R_old (rr HO758) hb) (Kd.R_base ho0)) (Kd.R_base ho1)) (fun _ h_ => h_.1));have n4_ := Aside0.mk (Kd.R_lower (Kd.R_new' (Kd.R_new' (Kd.R_new' (Kd.R_new' ho0 (Kd.R_lt (rr HO749))) (Kd.R_lt (rr HO752))) (Kd.R_lt (rr HO755))) (Kd.R_lt (rr HO758))) (below_size (bg HB GE744)));have n5_ := Aside0.mk (Kd.R_lower (Kd.R_new' (Kd.R_new' (Kd.R_new' (Kd.R_new' ho1 (Kd.R_lt (rr HO749))) (Kd.R_lt (rr HO752))) (Kd.R_lt (rr HO755))) (Kd.R_lt (rr HO758))) (below_size (bg HB GE744)));have n6_ := Aside0.mk (kb BK744 hb);have n7_ := Aside0.mk (below_step (bg HB GE744) hb);clear HO749 HO752 HO755 HO758 BK744 HB;have HO749 := n0_;have HO752 := n1_;have HO755 := n2_;have HO758 := n3_;have HO761 := n4_;have HO764 := n5_;have BK744 := n6_;have HB := n7_;clear n0_ n1_ n2_ n3_ n4_ n5_ n6_ n7_;(try clear hb);(try clear hb2);(try clear hk);(try clear hi);(try clear ho0);(try clear ho1);have hcz31_0 := bc BK744 0;have hcz31_1 := bc BK744 1;have hcz31_2 := bc BK744 2;have hcz31_3 := bc BK744 3;have hcz31_4 := bc BK744 4;have hcz31_5 := bc BK744 5;have hcz31_6 := bc BK744 6;have hfz31_0 := blk_frozen BK744.out 0;have hfz31_1 := blk_frozen BK744.out 1;have hfz31_2 := blk_frozen BK744.out 2;have hfz31_3 := blk_frozen BK744.out 3;have hfz31_4 := blk_frozen BK744.out 4;have hfz31_5 := blk_frozen BK744.out 5;have hfz31_6 := blk_frozen BK744.out 6)|(go_at_call 24;(with_reducible refine (privitylaw43_triple.calls k a0_0 a0_1 a0_2 _ _ l0_3 a0_4 a0_5 _ _ l0_6 t765 t768 _ ?side1 ?side2 ?side3 ?side4 A8.out).mono ?_);(case side1 => exact cb HR0_3 HB);(case side2 => exact HC0_3.out);(case side3 => exact cb HR0_6 HB);(case side4 => exact HC0_6.out);rintro e w32 ⟨v766,v769,rfl,ho0,ho1,hb⟩;have n0_ := Aside0.mk (Kd.R_mono (Kd.R_told (Kd.R_told (Kd.R_old (rr HO749) hb) (Kd.R_base ho0)) (Kd.R_base ho1)) (fun _ h_ => h_.1));have n1_ := Aside0.mk (Kd.R_mono (Kd.R_told (Kd.R_told (Kd.R_old (rr HO752) hb) (Kd.R_base ho0)) (Kd.R_base ho1)) (fun _ h_ => h_.1));have n2_ := Aside0.mk (Kd.R_mono (Kd.R_told (Kd.R_told (Kd.R_old (rr HO755) hb) (Kd.R_base ho0)) (Kd.R_base ho1)) (fun _ h_ => h_.1));have n3_ := Aside0.mk (Kd.R_mono (Kd.R_told (Kd.R_told (Kd.R_old (rr HO758) hb) (Kd.R_base ho0)) (Kd.R_base ho1)) (fun _ h_ => h_.1));have n4_ := Aside0.mk (Kd.R_mono (Kd.R_told (Kd.R_told (Kd.R_old (rr HO761) hb) (Kd.R_base ho0)) (Kd.R_base ho1)) (fun _ h_ => h_.1));have n5_ := Aside0.mk (Kd.R_mono (Kd.R_told (Kd.R_told (Kd.R_old (rr HO764) hb) (Kd.R_base ho0)) (Kd.R_base ho1)) (fun _ h_ => h_.1));have n6_ := Aside0.mk (Kd.R_lower (Kd.R_new' (Kd.R_new' (Kd.R_new' (Kd.R_new' (Kd.R_new' (Kd.R_new' ho0 (Kd.R_lt (rr HO749))) (Kd.R_lt (rr HO752))) (Kd.R_lt (rr HO755))) (Kd.R_lt (rr HO758))) (Kd.R_lt (rr HO761))) (Kd.R_lt (rr HO764))) (below_size (bg HB GE744)));have n7_ := Aside0.mk (Kd.R_lower (Kd.R_new' (Kd.R_new' (Kd.R_new' (Kd.R_new' (Kd.R_new' (Kd.R_new' ho1 (Kd.R_lt (rr HO749))) (Kd.R_lt (rr HO752))) (Kd.R_lt (rr HO755))) (Kd.R_lt (rr HO758))) (Kd.R_lt (rr HO761))) (Kd.R_lt (rr HO764))) (below_size (bg HB GE744)));have n8_ := Aside0.mk (kb BK744 hb);have n9_ := Aside0.mk (below_step (bg HB GE744) hb);clear HO749 HO752 HO755 HO758 HO761 HO764 BK744 HB;have HO749 := n0_;have HO752 := n1_;have HO755 := n2_;have HO758 := n3_;have HO761 := n4_;have HO764 := n5_;have HO767 := n6_;have HO770 := n7_;have BK744 := n8_;have HB := n9_;clear n0_ n1_ n2_ n3_ n4_ n5_ n6_ n7_ n8_ n9_;(try clear hb);(try clear hb2);(try clear hk);(try clear hi);(try clear ho0);(try clear ho1);have hcz33_0 := bc BK744 0;have hcz33_1 := bc BK744 1;have hcz33_2 := bc BK744 2;have hcz33_3 := bc BK744 3;have hcz33_4 := bc BK744 4;have hcz33_5 := bc BK744 5;have hcz33_6 := bc BK744 6;have hfz33_0 := blk_frozen BK744.out 0;have hfz33_1 := blk_frozen BK744.out 1;have hfz33_2 := blk_frozen BK744.out 2;have hfz33_3 := blk_frozen BK744.out 3;have hfz33_4 := blk_frozen BK744.out 4;have hfz33_5 := blk_frozen BK744.out 5;have hfz33_6 := blk_frozen BK744.out 6;obtain ⟨Ao34,co34,eo34⟩ := Kd.R_slice HO767.out;subst eo34;obtain ⟨Ao35,co35,eo35⟩ := Kd.R_slice HO770.out;subst eo35)|(go_at_call 25;(with_reducible refine (tapeshift_Triple.calls a0_0 a0_1 a0_2 _ _ l0_3 (Int.tmod a0_4 a0_0) (Int.tmod a0_5 a0_0) _ _ t765 _ _ t768 t771 t774 _ ?side1 ?side2 ?side3 ?side4 ?side5 ?side6 A9.out).mono ?_);(case side1 => exact cb HR0_3 HB);(case side2 => exact HC0_3.out);(case side3 => exact cr HO767);(case side4 => exact (Kd.R_reads' HO767.out).2.1);(case side5 => exact cr HO770);(case side6 => exact (Kd.R_reads' HO770.out).2.1);rintro e w36 ⟨v772,v775,rfl,ho0,ho1,hb⟩;have n0_ := Aside0.mk (Kd.R_mono (Kd.R_told (Kd.R_told (Kd.R_old (rr HO749) hb) (Kd.R_base ho0)) (Kd.R_base ho1)) (fun _ h_ => h_.1));have n1_ := Aside0.mk (Kd.R_mono (Kd.R_told (Kd.R_told (Kd.R_old (rr HO752) hb) (Kd.R_base ho0)) (Kd.R_base ho1)) (fun _ h_ => h_.1));have n2_ := Aside0.mk (Kd.R_mono (Kd.R_told (Kd.R_told (Kd.R_old (rr HO755) hb) (Kd.R_base ho0)) (Kd.R_base ho1)) (fun _ h_ => h_.1));have n3_ := Aside0.mk (Kd.R_mono (Kd.R_told (Kd.R_told (Kd.R_old (rr HO758) hb) (Kd.R_base ho0)) (Kd.R_base ho1)) (fun _ h_ => h_.1));have n4_ := Aside0.mk (Kd.R_mono (Kd.R_told (Kd.R_told (Kd.R_old (rr HO761) hb) (Kd.R_base ho0)) (Kd.R_base ho1)) (fun _ h_ => h_.1));have n5_ := Aside0.mk (Kd.R_mono (Kd.R_told (Kd.R_told (Kd.R_old (rr HO764) hb) (Kd.R_base ho0)) (Kd.R_base ho1)) (fun _ h_ => h_.1));have n6_ := Aside0.mk (Kd.R_mono (Kd.R_told (Kd.R_told (Kd.R_old (rr HO767) hb) (Kd.R_base ho0)) (Kd.R_base ho1)) (fun _ h_ => h_.1));have n7_ := Aside0.mk (Kd.R_mono (Kd.R_told (Kd.R_told (Kd.R_old (rr HO770) hb) (Kd.R_base ho0)) (Kd.R_base ho1)) (fun _ h_ => h_.1));have n8_ := Aside0.mk (Kd.R_lower (Kd.R_new' (Kd.R_new' (Kd.R_new' (Kd.R_new' (Kd.R_new' (Kd.R_new' (Kd.R_new' (Kd.R_new' ho0 (Kd.R_lt (rr HO749))) (Kd.R_lt (rr HO752))) (Kd.R_lt (rr HO755))) (Kd.R_lt (rr HO758))) (Kd.R_lt (rr HO761))) (Kd.R_lt (rr HO764))) (Kd.R_lt (rr HO767))) (Kd.R_lt (rr HO770))) (below_size (bg HB GE744)));have n9_ := Aside0.mk (Kd.R_lower (Kd.R_new' (Kd.R_new' (Kd.R_new' (Kd.R_new' (Kd.R_new' (Kd.R_new' (Kd.R_new' (Kd.R_new' ho1 (Kd.R_lt (rr HO749))) (Kd.R_lt (rr HO752))) (Kd.R_lt (rr HO755))) (Kd.R_lt (rr HO758))) (Kd.R_lt (rr HO761))) (Kd.R_lt (rr HO764))) (Kd.R_lt (rr HO767))) (Kd.R_lt (rr HO770))) (below_size (bg HB GE744)));have n10_ := Aside0.mk (kb BK744 hb);have n11_ := Aside0.mk (below_step (bg HB GE744) hb);clear HO749 HO752 HO755 HO758 HO761 HO764 HO767 HO770 BK744 HB;have HO749 := n0_;have HO752 := n1_;have HO755 := n2_;have HO758 := n3_;have HO761 := n4_;have HO764 := n5_;have HO767 := n6_;have HO770 := n7_;have HO773 := n8_;have HO776 := n9_;have BK744 := n10_;have HB := n11_;clear n0_ n1_ n2_ n3_ n4_ n5_ n6_ n7_ n8_ n9_ n10_ n11_;(try clear hb);(try clear hb2);(try clear hk);(try clear hi);(try clear ho0);(try clear ho1);have hcz37_0 := bc BK744 0;have hcz37_1 := bc BK744 1;have hcz37_2 := bc BK744 2;have hcz37_3 := bc BK744 3;have hcz37_4 := bc BK744 4;have hcz37_5 := bc BK744 5;have hcz37_6 := bc BK744 6;have hfz37_0 := blk_frozen BK744.out 0;have hfz37_1 := blk_frozen BK744.out 1;have hfz37_2 := blk_frozen BK744.out 2;have hfz37_3 := blk_frozen BK744.out 3;have hfz37_4 := blk_frozen BK744.out 4;have hfz37_5 := blk_frozen BK744.out 5;have hfz37_6 := blk_frozen BK744.out 6)|(go_at_call 26;(with_reducible refine (privityref43_Triple.calls k a0_0 a0_1 a0_2 _ _ l0_3 (Int.tmod a0_4 a0_0) (Int.tmod a0_5 a0_0) _ _ t765 _ _ t768 t777 t780 _ ?side1 ?side2 ?side3 ?side4 ?side5 ?side6 A10.out).mono ?_);(case side1 => exact cb HR0_3 HB);(case side2 => exact HC0_3.out);(case side3 => exact cr HO767);(case side4 => exact (Kd.R_reads' HO767.out).2.1);(case side5 => exact cr HO770);(case side6 => exact (Kd.R_reads' HO770.out).2.1);rintro e w38 ⟨v778,v781,rfl,ho0,ho1,hb⟩;have n0_ := Aside0.mk (Kd.R_mono (Kd.R_told (Kd.R_told (Kd.R_old (rr HO749) hb) (Kd.R_base ho0)) (Kd.R_base ho1)) (fun _ h_ => h_.1));have n1_ := Aside0.mk (Kd.R_mono (Kd.R_told (Kd.R_told (Kd.R_old (rr HO752) hb) (Kd.R_base ho0)) (Kd.R_base ho1)) (fun _ h_ => h_.1));have n2_ := Aside0.mk (Kd.R_mono (Kd.R_told (Kd.R_told (Kd.R_old (rr HO755) hb) (Kd.R_base ho0)) (Kd.R_base ho1)) (fun _ h_ => h_.1));have n3_ := Aside0.mk (Kd.R_mono (Kd.R_told (Kd.R_told (Kd.R_old (rr HO758) hb) (Kd.R_base ho0)) (Kd.R_base ho1)) (fun _ h_ => h_.1));have n4_ := Aside0.mk (Kd.R_mono (Kd.R_told (Kd.R_told (Kd.R_old (rr HO761) hb) (Kd.R_base ho0)) (Kd.R_base ho1)) (fun _ h_ => h_.1));have n5_ := Aside0.mk (Kd.R_mono (Kd.R_told (Kd.R_told (Kd.R_old (rr HO764) hb) (Kd.R_base ho0)) (Kd.R_base ho1)) (fun _ h_ => h_.1));have n6_ := Aside0.mk (Kd.R_mono (Kd.R_told (Kd.R_told (Kd.R_old (rr HO767) hb) (Kd.R_base ho0)) (Kd.R_base ho1)) (fun _ h_ => h_.1));have n7_ := Aside0.mk (Kd.R_mono (Kd.R_told (Kd.R_told (Kd.R_old (rr HO770) hb) (Kd.R_base ho0)) (Kd.R_base ho1)) (fun _ h_ => h_.1));have n8_ := Aside0.mk (Kd.R_mono (Kd.R_told (Kd.R_told (Kd.R_old (rr HO773) hb) (Kd.R_base ho0)) (Kd.R_base ho1)) (fun _ h_ => h_.1));have n9_ := Aside0.mk (Kd.R_mono (Kd.R_told (Kd.R_told (Kd.R_old (rr HO776) hb) (Kd.R_base ho0)) (Kd.R_base ho1)) (fun _ h_ => h_.1));have n10_ := Aside0.mk (Kd.R_lower (Kd.R_new' (Kd.R_new' (Kd.R_new' (Kd.R_new' (Kd.R_new' (Kd.R_new' (Kd.R_new' (Kd.R_new' (Kd.R_new' (Kd.R_new' ho0 (Kd.R_lt (rr HO749))) (Kd.R_lt (rr HO752))) (Kd.R_lt (rr HO755))) (Kd.R_lt (rr HO758))) (Kd.R_lt (rr HO761))) (Kd.R_lt (rr HO764))) (Kd.R_lt (rr HO767))) (Kd.R_lt (rr HO770))) (Kd.R_lt (rr HO773))) (Kd.R_lt (rr HO776))) (below_size (bg HB GE744)));have n11_ := Aside0.mk (Kd.R_lower (Kd.R_new' (Kd.R_new' (Kd.R_new' (Kd.R_new' (Kd.R_new' (Kd.R_new' (Kd.R_new' (Kd.R_new' (Kd.R_new' (Kd.R_new' ho1 (Kd.R_lt (rr HO749))) (Kd.R_lt (rr HO752))) (Kd.R_lt (rr HO755))) (Kd.R_lt (rr HO758))) (Kd.R_lt (rr HO761))) (Kd.R_lt (rr HO764))) (Kd.R_lt (rr HO767))) (Kd.R_lt (rr HO770))) (Kd.R_lt (rr HO773))) (Kd.R_lt (rr HO776))) (below_size (bg HB GE744)));have n12_ := Aside0.mk (kb BK744 hb);have n13_ := Aside0.mk (below_step (bg HB GE744) hb);clear HO749 HO752 HO755 HO758 HO761 HO764 HO767 HO770 HO773 HO776 BK744 HB;have HO749 := n0_;have HO752 := n1_;have HO755 := n2_;have HO758 := n3_;have HO761 := n4_;have HO764 := n5_;have HO767 := n6_;have HO770 := n7_;have HO773 := n8_;have HO776 := n9_;have HO779 := n10_;have HO782 := n11_;have BK744 := n12_;have HB := n13_;clear n0_ n1_ n2_ n3_ n4_ n5_ n6_ n7_ n8_ n9_ n10_ n11_ n12_ n13_;(try clear hb);(try clear hb2);(try clear hk);(try clear hi);(try clear ho0);(try clear ho1))|(go_at_call 13;(with_reducible refine (privitylaw43_awake.calls k  true _ A11.out).mono ?_);rintro e w39 ⟨rfl,hb⟩;have n0_ := Aside0.mk (Kd.R_below (rr HO749) hb);have n1_ := Aside0.mk (Kd.R_below (rr HO752) hb);have n2_ := Aside0.mk (Kd.R_below (rr HO755) hb);have n3_ := Aside0.mk (Kd.R_below (rr HO758) hb);have n4_ := Aside0.mk (Kd.R_below (rr HO761) hb);have n5_ := Aside0.mk (Kd.R_below (rr HO764) hb);have n6_ := Aside0.mk (Kd.R_below (rr HO767) hb);have n7_ := Aside0.mk (Kd.R_below (rr HO770) hb);have n8_ := Aside0.mk (Kd.R_below (rr HO773) hb);have n9_ := Aside0.mk (Kd.R_below (rr HO776) hb);have n10_ := Aside0.mk (Kd.R_below (rr HO779) hb);have n11_ := Aside0.mk (Kd.R_below (rr HO782) hb);have n12_ := Aside0.mk (kb BK744 hb);have n13_ := Aside0.mk (below_step (bg HB GE744) hb);clear HO749 HO752 HO755 HO758 HO761 HO764 HO767 HO770 HO773 HO776 HO779 HO782 BK744 HB;have HO749 := n0_;have HO752 := n1_;have HO755 := n2_;have HO758 := n3_;have HO761 := n4_;have HO764 := n5_;have HO767 := n6_;have HO770 := n7_;have HO773 := n8_;have HO776 := n9_;have HO779 := n10_;have HO782 := n11_;have BK744 := n12_;have HB := n13_;clear n0_ n1_ n2_ n3_ n4_ n5_ n6_ n7_ n8_ n9_ n10_ n11_ n12_ n13_;(try clear hb);(try clear hb2);(try clear hk);(try clear hi);obtain ⟨Ao40,co40,eo40⟩ := Kd.R_slice HO755.out;subst eo40;obtain ⟨Ao41,co41,eo41⟩ := Kd.R_slice HO761.out;subst eo41)|(go_at_call 18;(with_reducible refine (privityref14_Words.calls k _ _ t753 _ _ t759 true _ ?side1 ?side2 ?side3 ?side4 A13.out).mono ?_);(case side1 => exact cr HO755);(case side2 => exact (Kd.R_reads' HO755.out).2.1);(case side3 => exact cr HO761);(case side4 => exact (Kd.R_reads' HO761.out).2.1);rintro e w' ⟨rfl,⟨nd,rfl⟩⟩;(try first|exact ⟨rfl,_,World.drewN_drewN _ _ _⟩|exact ⟨rfl,_,Eq.trans (World.drewN_drewN _ _ _) (congrArg (World.drewN _) (Nat.add_assoc _ _ _))⟩);obtain ⟨Ao42,co42,eo42⟩ := Kd.R_slice HO758.out;subst eo42;obtain ⟨Ao43,co43,eo43⟩ := Kd.R_slice HO764.out;subst eo43)|(go_at_call 18;(with_reducible refine (privityref14_Words.calls k _ _ t756 _ _ t762 true _ ?side1 ?side2 ?side3 ?side4 A15.out).mono ?_);(case side1 => exact cr HO758);(case side2 => exact (Kd.R_reads' HO758.out).2.1);(case side3 => exact cr HO764);(case side4 => exact (Kd.R_reads' HO764.out).2.1);rintro e w' ⟨rfl,⟨nd,rfl⟩⟩;(try first|exact ⟨rfl,_,World.drewN_drewN _ _ _⟩|exact ⟨rfl,_,Eq.trans (World.drewN_drewN _ _ _) (congrArg (World.drewN _) (Nat.add_assoc _ _ _))⟩);obtain ⟨Ao44,co44,eo44⟩ := Kd.R_slice HO773.out;subst eo44;obtain ⟨Ao45,co45,eo45⟩ := Kd.R_slice HO779.out;subst eo45)|(go_at_call 18;(with_reducible refine (privityref14_Words.calls k _ _ t771 _ _ t777 true _ ?side1 ?side2 ?side3 ?side4 A17.out).mono ?_);(case side1 => exact cr HO773);(case side2 => exact (Kd.R_reads' HO773.out).2.1);(case side3 => exact cr HO779);(case side4 => exact (Kd.R_reads' HO779.out).2.1);rintro e w' ⟨rfl,⟨nd,rfl⟩⟩;(try first|exact ⟨rfl,_,World.drewN_drewN _ _ _⟩|exact ⟨rfl,_,Eq.trans (World.drewN_drewN _ _ _) (congrArg (World.drewN _) (Nat.add_assoc _ _ _))⟩);obtain ⟨Ao46,co46,eo46⟩ := Kd.R_slice HO776.out;subst eo46;obtain ⟨Ao47,co47,eo47⟩ := Kd.R_slice HO782.out;subst eo47)|(go_at_call 18;(with_reducible refine (privityref14_Words.calls k _ _ t774 _ _ t780 t787 _ ?side1 ?side2 ?side3 ?side4 A19.out).mono ?_);(case side1 => exact cr HO776);(case side2 => exact (Kd.R_reads' HO776.out).2.1);(case side3 => exact cr HO782);(case side4 => exact (Kd.R_reads' HO782.out).2.1);rintro e w' ⟨rfl,⟨nd,rfl⟩⟩;(try first|exact ⟨rfl,_,World.drewN_drewN _ _ _⟩|exact ⟨rfl,_,Eq.trans (World.drewN_drewN _ _ _) (congrArg (World.drewN _) (Nat.add_assoc _ _ _))⟩))))
       go_ret
       exact ⟨by first|rfl|(simp [errW_none,errW_some] <;> rfl)|(simp [*,errW_none,errW_some] <;> rfl),by repeat (first|(with_reducible first|exact HB.out|apply below_alloc|apply pw_below_drewN|apply below_drew1|refine below_set ?_ GE744.out)|exact HB.out)⟩
      ·replace c18 := Bool.eq_false_iff.mpr c18
       subst c18
       rw [if_neg (show ¬ (false = true) by decide)] at H
       exact absurd (Option.some.inj H) (by rw [HRT_.out];simp)
     ·replace c16 := Bool.eq_false_iff.mpr c16
      subst c16
      rw [if_neg (show ¬ (false = true) by decide)] at H
      exact absurd (Option.some.inj H) (by rw [HRT_.out];simp)
    ·replace c14 := Bool.eq_false_iff.mpr c14
     subst c14
     rw [if_neg (show ¬ (false = true) by decide)] at H
     exact absurd (Option.some.inj H) (by rw [HRT_.out];simp)
   ·replace c12 := Bool.eq_false_iff.mpr c12
    subst c12
    rw [if_neg (show ¬ (false = true) by decide)] at H
    exact absurd (Option.some.inj H) (by rw [HRT_.out];simp)
 ·replace c3 := Bool.eq_false_iff.mpr c3
  subst c3
  rw [if_neg (show ¬ (false = true) by decide)] at H
  replace H := Option.bind_eq_some_iff.mp H
  obtain ⟨t746,A1400,H⟩ := H
  try dsimp only at H
  have A140 := Aside0.mk A1400
  clear A1400
  obtain rfl := Option.some.inj H
  go_enter Try.func6,Try.ntmps6
  go_wp2_with (first|((with_reducible refine gate_dst (N := 1) rfl ?_);refine box_event ?hg (N := 1) ?hd (cs := #[.int .u64 a0_0,.int .i64 a0_1,.int .i64 a0_2,.slice A0_3 l0_3.length c0_3,.int .u64 a0_4,.int .u64 a0_5,.slice A0_6 l0_6.length c0_6]) (t := 28) ?hr ?_;(case hd => rfl);(case hg => rfl);(case hr => first|(go_simp;done)|(go_simp;rfl));intro gb744 hg w141 hbox hb;have n0_ := Aside0.mk (below_step (bb HB) hb);have n1_ := Aside0.mk (hbox);have n2_ := Aside0.mk ((by rw [hg];exact (below_size (bb HB)) : w.heap.size ≤ gb744));have n3_ := Aside0.mk ((by rw [hg];exact (below_size (bb HB)) : w.heap.size ≤ gb744));clear HB;have HB := n0_;have BK744 := n1_;have GW744 := n2_;have GE744 := n3_;clear n0_ n1_ n2_ n3_;clear hb hbox hg;have hcz142_0 := bc BK744 0;have hcz142_1 := bc BK744 1;have hcz142_2 := bc BK744 2;have hcz142_3 := bc BK744 3;have hcz142_4 := bc BK744 4;have hcz142_5 := bc BK744 5;have hcz142_6 := bc BK744 6;have hfz142_0 := blk_frozen BK744.out 0;have hfz142_1 := blk_frozen BK744.out 1;have hfz142_2 := blk_frozen BK744.out 2;have hfz142_3 := blk_frozen BK744.out 3;have hfz142_4 := blk_frozen BK744.out 4;have hfz142_5 := blk_frozen BK744.out 5;have hfz142_6 := blk_frozen BK744.out 6)|(go_at_call 12;(with_reducible refine (privitylaw43_may.calls k a0_0 a0_1 a0_2 _ _ l0_3 a0_4 a0_5 _ _ l0_6 false _ ?side1 ?side2 ?side3 ?side4 A2.out).mono ?_);(case side1 => exact cb HR0_3 HB);(case side2 => exact HC0_3.out);(case side3 => exact cb HR0_6 HB);(case side4 => exact HC0_6.out);rintro e w143 ⟨rfl,hb⟩;have n0_ := Aside0.mk (kb BK744 hb);have n1_ := Aside0.mk (below_step (bg HB GE744) hb);clear BK744 HB;have BK744 := n0_;have HB := n1_;clear n0_ n1_;(try clear hb);(try clear hb2);(try clear hk);(try clear hi))|(go_at_call 13;(with_reducible refine (privitylaw43_awake.calls k  t746 _ A140.out).mono ?_);rintro e w144 ⟨rfl,hb⟩;have n0_ := Aside0.mk (kb BK744 hb);have n1_ := Aside0.mk (below_step (bg HB GE744) hb);clear BK744 HB;have BK744 := n0_;have HB := n1_;clear n0_ n1_;(try clear hb);(try clear hb2);(try clear hk);(try clear hi)))
  repeat (go_quiet (first|fail);try go_wp2_with (first|fail))
  go_ret
  exact ⟨by first|rfl|(simp [errW_none,errW_some] <;> rfl)|(simp [*,errW_none,errW_some] <;> rfl),by repeat (first|(with_reducible first|exact HB.out|apply below_alloc|apply pw_below_drewN|apply below_drew1|refine below_set ?_ GE744.out)|exact HB.out)⟩
end Go.Proofs.Ytejeelpnmdfibaa.Pr
end
section
namespace Go.Proofs.Ytejeelpnmdfibaa.E
open Go.RowKit Go.Proofs.Ytejeelpnmdfibaa.Pr Go.Proofs.Ytejeelpnmdfibaa.Hw Go.Proofs.Ytejeelpnmdfibaa.Pl Go.Proofs.YtejeelpnmdfibaaW.PrintWords Go.Proofs.YtejeelpnmdfibaaW.PrintLast Go.Proofs.YtejeelpnmdfibaaW.PrintMore
set_option linter.unusedVariables false
set_option linter.unusedSimpArgs false
theorem rdR_nat (l : List (List Int)) (i : Nat) : rd_L4 l (i : Int) = l.getD i [] := by unfold rd_L4;rw [Int.toNat_natCast]
theorem offs_T {T : Int} (hT : T = 1 ∨ T = 2) : offs (T.toNat + 1) (T.toNat + 1) = T.toNat * (T.toNat + 1) / 2 := by
 rcases hT with rfl|rfl <;> decide
theorem rnew_eq {T : Int} (hT : T = 1 ∨ T = 2) {q r : List Int} (lq : q.length = T.toNat + 1) (lr : r.length = T.toNat * (T.toNat + 1) / 2) : privityref10_New.f q r = some (matL (T.toNat + 1) (newG (T.toNat + 1) q r),0) := by
 have h3 : T.toNat + 1 ≤ 3 ∧ T.toNat * (T.toNat + 1) / 2 ≤ 3 := by rcases hT with rfl|rfl <;> decide
 unfold privityref10_New.f
 rw [if_pos (by omega),if_pos (by omega),if_neg,lq]
 intro h
 rcases newBad_iff.1 h with h|h
 ·omega
 ·rw [lq,offs_T hT] at h;exact h lr
theorem newG_res {p : Int} (hp : Supp p) {q r : List Int} (hq : ∀ x ∈ q,Res p x) (hr : ∀ x ∈ r,Res p x) (n i j : Nat) : Res p (newG n q r i j) := by
 unfold newG
 split
 ·exact res_getD hp hq _
 ·exact res_getD hp hr _
theorem by_getD {p : Int} {z : List Int} {d : Int} {l : List Int} {j : Nat} (hj : j < l.length) : (byL p z d l).getD j 0 = (l.getD j 0 + d * z.getD j 0 % p) % p := by unfold byL;rw [tabL_getD,if_pos hj]
theorem newG_shift {p : Int} (hp : Supp p) {T : Int} (hT : T = 1 ∨ T = 2) {z : List Int} (hz : ∀ x ∈ z,Res p x) (z0 : z.getD 0 0 = 1) (d : Int) {q r : List Int} (lq : q.length = T.toNat + 1) (lr : r.length = T.toNat * (T.toNat + 1) / 2) :
  ∀ i,i < T.toNat + 1 → ∀ j,j < T.toNat + 1 → newG (T.toNat + 1) (byL p z d q) (byL p (wL p T z) d r) i j = trG p d (fun a => z.getD a 0) (newG (T.toNat + 1) q r) i j := by
 intro i hi j hj
 unfold trG
 by_cases h0 : min i j = 0
 ·unfold newG
  rw [if_pos h0,if_pos h0,by_getD (by omega)]
  have e : z.getD i 0 * z.getD j 0 = z.getD (max i j) 0 := by
   rcases Nat.eq_zero_or_pos i with rfl|h
   ·rw [z0,Int.one_mul,Nat.zero_max]
   ·have : j = 0 := by omega
    subst this
    rw [z0,Int.mul_one,Nat.max_zero]
  rw [e,(res_getD hp hz (max i j)).eq]
 ·unfold newG
  rw [if_neg h0,if_neg h0]
  have key : ∀ m : Nat,m < r.length → (wL p T z).getD m 0 = z.getD i 0 * z.getD j 0 % p → offs (T.toNat + 1) (min i j) + (max i j - min i j) = m → (byL p (wL p T z) d r).getD (offs (T.toNat + 1) (min i j) + (max i j - min i j)) 0 = (r.getD (offs (T.toNat + 1) (min i j) + (max i j - min i j)) 0 + d * (z.getD i 0 * z.getD j 0 % p) % p) % p := fun m hm hw e => by
   rw [e,by_getD hm,hw]
  rcases hT with rfl|rfl
  ·have hi1 : i = 1 := by have : i < 2 := hi;omega
   have hj1 : j = 1 := by have : j < 2 := hj;omega
   subst hi1;subst hj1
   exact key 0 (by rw [lr];decide) (by rw [wL1];rfl) rfl
  ·have hi3 : i < 3 := hi
   have hj3 : j < 3 := hj
   have ci : i = 1 ∨ i = 2 := by omega
   have cj : j = 1 ∨ j = 2 := by omega
   rcases ci with rfl|rfl
   ·rcases cj with rfl|rfl
    ·exact key 0 (by rw [lr];decide) (by rw [wL2];rfl) rfl
    ·exact key 1 (by rw [lr];decide) (by rw [wL2];rfl) rfl
   ·rcases cj with rfl|rfl
    ·exact key 1 (by rw [lr];decide) (by rw [wL2];show z.getD 1 0 * z.getD 2 0 % p = _;rw [Int.mul_comm]) rfl
    ·exact key 2 (by rw [lr];decide) (by rw [wL2];rfl) rfl
structure Zs (p N T : Int) (bad z : List Int) : Prop where
 res : ∀ x ∈ z,Res p x
 len : z.length = T.toNat + 1
 z0 : z.getD 0 0 = 1
 root : ∀ x ∈ extB N T bad,evI p x z = 0
theorem vanZs {p N T : Int} {bad : List Int} (h : Ok12 p N T bad) : Zs p N T bad (vanZ p N T bad) := by
 have hr : ∀ x ∈ vanZ p N T bad,Res p x := van_res h.hp h.van
 have hl := vanZ_length h
 have ht := h.coa.t0
 refine ⟨hr,by omega,?_,fun x hx => van_root h.hp h.van x hx⟩
 rw [← evI_zero' h.hp hr]
 exact van_zero h.hp h.van
theorem all_uniq {p : Int} (hp : Supp p) [NeZero p.toNat] {f g : List Int} (hf : ∀ x ∈ f,Res p x) (hg : ∀ x ∈ g,Res p x) (lf : f.length ≤ 31) (lg : g.length ≤ 31) (h : ∀ x : Fin p.toNat,ev x (M p f) = ev x (M p g)) : trimL f = trimL g := by
 have hb := hp.bd
 refine uniq hp (xs := runL 31 0) (fun x hx => by have := (runL_mem 31 0 x).1 hx;exact ⟨by omega,by omega⟩) (runL_nodup 31 0) hf hg (by rw [runL_length];exact lf) (by rw [runL_length];exact lg) (fun x _ => ?_)
 refine T_inj hp (evI_res hp _ _) (evI_res hp _ _) ?_
 rw [ev_evI hp,ev_evI hp,h]
def rsubL (p : Int) (a b : List Int) : List Int := addP p a (trimL (b.map fun v => (p - 1) * v % p))
theorem rsubL_res {p : Int} (hp : Supp p) (a b : List Int) : ∀ x ∈ rsubL p a b,Res p x := addP_res hp _ _
theorem rsubL_length (p : Int) (a b : List Int) : (rsubL p a b).length ≤ max a.length b.length := by
 unfold rsubL
 rw [addP_length]
 have h := trimL_length (b.map fun v => (p - 1) * v % p)
 rw [List.length_map] at h
 omega
theorem rsub_ev {p : Int} (hp : Supp p) {a b : List Int} (ha : ∀ x ∈ a,Res p x) (hb : ∀ x ∈ b,Res p x) (la : a.length ≤ 1000000) (lb : b.length ≤ 1000000) : Ev (fun k => privityref04_Sub.f k p a b) (trimL (rsubL p a b)) := by
 have hb31 := hp.bd
 have hw : IntKind.u64.wrap (p - 1) = p - 1 := wrapU_id (by omega) (by omega)
 have hr : ∀ x ∈ trimL (b.map fun v => (p - 1) * v % p),Res p x := fun x hx => by
  obtain ⟨y,_,rfl⟩ := List.mem_map.1 (trimL_mem hx)
  exact Res.mod hp _
 have hl := trimL_length (b.map fun v => (p - 1) * v % p)
 rw [List.length_map] at hl
 unfold privityref04_Sub.f
 rw [hw]
 exact Ev.bind (rscale_ev hp ⟨by omega,by omega⟩ b hb (by omega)) (Ev.bind (rradd_ev hp ha hr (by omega) (by omega)) (Ev.now _))
theorem rsubL_ev {p : Int} (hp : Supp p) [NeZero p.toNat] (x : Fin p.toNat) (a b : List Int) : ev x (M p (rsubL p a b)) = ev x (M p a) - ev x (M p b) := by
 have hn : T p (p - 1) = -1 := by
  rw [T_sub,T_one,← T_mod hp p,Int.emod_self,T_zero];grind
 unfold rsubL
 rw [ev_addP hp,ev_trimL x,ev_scaleL hp,hn]
 grind
theorem mul_ev2 {p : Int} (hp : Supp p) [NeZero p.toNat] (x : Fin p.toNat) (a b : List Int) : ev x (M p (trimL (mulsL p a b a.length))) = ev x (M p a) * ev x (M p b) := by
 rw [ev_trimL x,ev_muls hp,M_take_all]
set_option maxHeartbeats 8000000 in
theorem rdm_l0 {p : Int} (hp : Supp p) [NeZero p.toNat] {b : List Int} (hb : ∀ x ∈ b,Res p x) (hb0 : 0 < b.length) (hb1 : b.length ≤ 10) {u : Int} (hu : Res p u) (hi : b.getD (b.length - 1) 0 * u % p = 1) : ∀ (n : Nat) (r q : List Int),r.length ≤ n → r.length ≤ 15 → q.length ≤ 15 → (∀ x ∈ r,Res p x) → (∀ x ∈ q,Res p x) →
  ∃ q' r' : List Int,Ev (fun k => privityref04_DivMod.l0 k p b r u q) (q',r',0) ∧ (∀ x ∈ q',Res p x) ∧ (∀ x ∈ r',Res p x) ∧ q'.length ≤ 15 ∧ r'.length < b.length ∧ ∀ x : Fin p.toNat,ev x (M p q') * ev x (M p b) + ev x (M p r') = ev x (M p q) * ev x (M p b) + ev x (M p r) := by
 intro n
 induction n with
 | zero =>
  intro r q h0 h1 h2 hr hq
  refine ⟨q,r,?_,hq,hr,h2,by omega,fun x => rfl⟩
  refine Ev.step (fun k => ?_) (Ev.now _)
  simp only [privityref04_DivMod.l0]
  rw [if_neg (by omega)]
 | succ n ih =>
  intro r q h0 h1 h2 hr hq
  by_cases hlt : r.length < b.length
  ·refine ⟨q,r,?_,hq,hr,h2,hlt,fun x => rfl⟩
   refine Ev.step (fun k => ?_) (Ev.now _)
   simp only [privityref04_DivMod.l0]
   rw [if_neg (by omega)]
  ·obtain ⟨s,hs⟩ : ∃ s,s = r.length - b.length := ⟨_,rfl⟩
   obtain ⟨c,hc⟩ : ∃ c,c = r.getD (r.length - 1) 0 * u % p := ⟨_,rfl⟩
   have rc : Res p c := by rw [hc];exact Res.mod hp _
   have hzero : Res p 0 := by have := hp.bd;exact ⟨Int.le_refl 0,by omega⟩
   obtain ⟨t,ht⟩ : ∃ t,t = (List.replicate (s + 1) (0 : Int)).set s c := ⟨_,rfl⟩
   have lt : t.length = s + 1 := by rw [ht,List.length_set,List.length_replicate]
   have rt : ∀ x ∈ t,Res p x := by
    rw [ht]
    exact res_set (fun x hx => by rw [List.eq_of_mem_replicate hx];exact hzero) s rc
   have evt : ∀ x : Fin p.toNat,ev x (M p t) = T p c * mono x s := fun x => by
    have hm : M p t = (List.replicate (s + 1) (0 : Fin p.toNat)).set s (T p c) := by
     rw [ht];unfold M;rw [List.map_set,List.map_replicate,T_zero]
    have h0 : (List.replicate (s + 1) (0 : Fin p.toNat)).getD s 0 = 0 := by
     rw [List.getD_eq_getElem?_getD,List.getElem?_replicate];split <;> rfl
    rw [hm,ev_set _ _ _ _ (by rw [List.length_replicate];omega),ev_zeros,h0]
    grind
   obtain ⟨r1,hr1⟩ : ∃ l,l = subN p c b s r b.length := ⟨_,rfl⟩
   have l1 : r1.length = r.length := by rw [hr1,subN_length]
   have res1 : ∀ x ∈ r1,Res p x := by rw [hr1];exact subN_res hp c b s hr b.length
   have top : r1.getD (r.length - 1) 0 = 0 := by
    rw [hr1]
    obtain ⟨m,hm⟩ : ∃ m,b.length = m + 1 := ⟨b.length - 1,by omega⟩
    rw [hm,subN,List.getD_eq_getElem?_getD,show r.length - 1 = s + m by omega,List.getElem?_set_self (by rw [subN_length];omega)]
    show ((subN p c b s r m).getD (s + m) 0 - c * b.getD m 0 % p) % p = 0
    rw [subN_far p c b s r m (s + m) (Nat.le_refl _)]
    have hbm : b.getD m 0 * u % p = 1 := by have := hi;rwa [hm,Nat.add_sub_cancel] at this
    have hcr : c = r.getD (s + m) 0 * u % p := by rw [hc,show r.length - 1 = s + m by omega]
    have rr := res_getD hp hr (s + m)
    refine T_inj hp (Res.mod hp _) hzero ?_
    have e1 : T p (b.getD m 0) * T p u = 1 := by rw [← T_mul,← T_mod hp,hbm,T_one]
    rw [T_mod hp,T_sub,T_mod hp,T_mul,hcr,T_mod hp,T_mul,T_zero]
    grind
   have less : (trimL r1).length < r.length := by
    have hle := trimL_length r1
    by_cases he : (trimL r1).length = r.length
    ·exfalso
     have hne : trimL r1 ≠ [] := fun h => by rw [h] at he;simp at he;omega
     have := trimL_last r1 hne
     rw [he,trimL_getD] at this
     exact this top
    ·omega
   have rm : ∀ x ∈ trimL (mulsL p t b t.length),Res p x := fun x hx => mulsL_res hp _ _ _ x (trimL_mem hx)
   have lm := trimL_length (mulsL p t b t.length)
   have lm' := mulsL_length p t b t.length
   have lsub := rsubL_length p r (trimL (mulsL p t b t.length))
   have hsame : trimL (rsubL p r (trimL (mulsL p t b t.length))) = trimL r1 := all_uniq hp (rsubL_res hp _ _) res1 (by omega) (by omega) (fun x => by
    have hbt : (M p b).take b.length = M p b := M_take_all b
    rw [rsubL_ev hp,mul_ev2 hp,evt,hr1,subN_ev hp c b s r x b.length (by omega),hbt])
   have lq := addP_length p q t
   have lq' := trimL_length (addP p q t)
   obtain ⟨q',r',hev,a1,a2,a3,a4,a5⟩ := ih (trimL r1) (trimL (addP p q t)) (by omega) (by omega) (by omega) (fun x hx => res1 x (trimL_mem hx)) (fun x hx => addP_res hp _ _ x (trimL_mem hx))
   refine ⟨q',r',?_,a1,a2,a3,a4,fun x => ?_⟩
   ·have hw1 : wrap64 ((r.length : Int) - 1) = ((r.length - 1 : Nat) : Int) := by rw [w64' (by omega) (by omega)];omega
    have hw2 : wrap64 (wrap64 ((r.length : Int) - (b.length : Int)) + 1) = ((s + 1 : Nat) : Int) := by rw [w64' (n := (r.length : Int) - (b.length : Int)) (by omega) (by omega),w64' (by omega) (by omega)];omega
    have hw3 : wrap64 ((((s + 1 : Nat) : Int)) - 1) = (s : Int) := by rw [w64' (by omega) (by omega)];omega
    rw [← hsame] at hev
    refine Ev.step (f := fun k => (privityref01_Mul.f k p (r.getD (r.length - 1) 0) u).bind fun t637 => ((privityref04_Add.f k p q ((List.replicate (s + 1) (0 : Int)).set s t637)).bind fun t639 => ((privityref04_Mul.f k p ((List.replicate (s + 1) (0 : Int)).set s t637) b).bind fun t642 => ((privityref04_Sub.f k p r t642).bind fun t645 => (privityref04_DivMod.l0 k p b t645 u t639))))) (fun k => ?_) (Ev.bind (a := c) (by rw [hc];exact rmul_ev hp (res_getD hp hr _) hu) ?_)
    ·simp only [privityref04_DivMod.l0]
     rw [hw1,hw2,if_pos (by omega),if_pos (by omega),Int.toNat_natCast,if_pos (by omega),Option.bind_some,if_pos (by omega),if_pos (by omega),rd_nat]
     refine congrArg _ (funext fun t => ?_)
     rw [List.length_replicate,hw3,if_pos (by omega),if_pos (by omega),Option.bind_some,Int.toNat_natCast]
    ·rw [← ht]
     exact Ev.bind (rradd_ev hp hq rt (by omega) (by omega)) (Ev.bind (rmulL_ev hp rt hb (by omega) (by omega)) (Ev.bind (rsub_ev hp hr rm (by omega) (by omega)) hev))
   ·rw [a5 x,ev_trimL x,ev_addP hp,ev_trimL x,evt,hr1,subN_ev hp c b s r x b.length (by omega)]
    have hbt : (M p b).take b.length = M p b := M_take_all b
    rw [hbt]
    grind
theorem rdm_ev {p : Int} (hp : Supp p) [NeZero p.toNat] {a b : List Int} (ha : ∀ x ∈ a,Res p x) (hb : ∀ x ∈ b,Res p x) (la : a.length ≤ 15) (lb : b.length ≤ 10) (hb0 : 0 < b.length) (hl : b.getD (b.length - 1) 0 ≠ 0) :
  ∃ q r : List Int,Ev (fun k => privityref04_DivMod.f k p a b) (q,r,0) ∧ (∀ x ∈ q,Res p x) ∧ (∀ x ∈ r,Res p x) ∧ q.length ≤ 15 ∧ r.length < b.length ∧ ∀ x : Fin p.toNat,ev x (M p a) = ev x (M p q) * ev x (M p b) + ev x (M p r) := by
 have htb : trimL b = b := trim_full hb0 hl
 have hrb := res_getD hp hb (b.length - 1)
 have hta := trimL_length a
 have hw1 : wrap64 ((b.length : Int) - 1) = ((b.length - 1 : Nat) : Int) := by rw [w64' (by omega) (by omega)];omega
 obtain ⟨q,r,hev,a1,a2,a3,a4,a5⟩ := rdm_l0 hp hb hb0 lb (u := invp p (b.getD (b.length - 1) 0)) (inv_res hp _) (inv_spec hp hrb hl) (trimL a).length (trimL a) [] (Nat.le_refl _) (by omega) (Nat.zero_le _) (fun x hx => ha x (trimL_mem hx)) (fun x hx => by cases hx)
 refine ⟨q,r,?_,a1,a2,a3,a4,fun x => ?_⟩
 ·unfold privityref04_DivMod.f
  have h := rtrim_ev b (by omega)
  rw [htb] at h
  refine Ev.bind h ?_
  refine Ev.congr (fun k => if_neg (by omega)) (Ev.bind (rtrim_ev a (by omega)) ?_)
  rw [hw1]
  refine Ev.congr (fun k => if_pos (by omega)) (Ev.congr (fun k => if_pos (by omega)) ?_)
  rw [rd_nat]
  exact Ev.bind (rinv_ev hp hrb hl) hev
 ·have hnil : ev x (M p []) = 0 := rfl
  rw [a5 x,ev_trimL x,hnil]
  grind
def rbyL (p : Int) (z : List Int) (d : Int) (a : List Int) : List Int := trimL (addP p a (trimL (z.map fun v => d * v % p)))
theorem rbyL_res {p : Int} (hp : Supp p) (z : List Int) (d : Int) (a : List Int) : ∀ x ∈ rbyL p z d a,Res p x := fun x hx => addP_res hp _ _ x (trimL_mem hx)
theorem rbyL_length (p : Int) (z : List Int) (d : Int) (a : List Int) : (rbyL p z d a).length ≤ max a.length z.length := by
 unfold rbyL
 have h1 := trimL_length (addP p a (trimL (z.map fun v => d * v % p)))
 have h2 := trimL_length (z.map fun v => d * v % p)
 rw [List.length_map] at h2
 rw [addP_length] at h1
 omega
theorem map_getD (d p : Int) : ∀ (z : List Int) (j : Nat),(z.map fun v => d * v % p).getD j 0 = d * z.getD j 0 % p
 | [],j => by simp
 | c :: z,0 => by simp
 | c :: z,j + 1 => by
  have := map_getD d p z j
  simp only [List.map_cons,List.getD_cons_succ]
  exact this
theorem rby_getD {p : Int} (hp : Supp p) {a z : List Int} {d : Int} (ha : ∀ x ∈ a,Res p x) (hl : z.length = a.length) (j : Nat) : (rbyL p z d a).getD j 0 = (byL p z d a).getD j 0 := by
 unfold rbyL
 rw [trimL_getD,addP_getD hp ha (fun x hx => by
  obtain ⟨y,_,rfl⟩ := List.mem_map.1 (trimL_mem hx)
  exact Res.mod hp _),trimL_getD,map_getD]
 by_cases hj : j < a.length
 ·rw [by_getD hj]
 ·rw [getD_out a j (by omega),getD_out z j (by omega),getD_out (byL p z d a) j (by rw [byL_length];omega)]
  simp
theorem rby_ev {p : Int} (hp : Supp p) [NeZero p.toNat] (x : Fin p.toNat) (a z : List Int) (d : Int) : ev x (M p (rbyL p z d a)) = ev x (M p a) + T p d * ev x (M p z) := by
 unfold rbyL
 rw [ev_trimL x,ev_addP hp,ev_trimL x,ev_scaleL hp]
theorem rquot_ev {p N U : Int} {bad : List Int} (h : OkM p N U bad) {da db : Int} (rda : Res p da) (rdb : Res p db) {a b : List Int} (ha : ∀ x ∈ a,Res p x) (hb : ∀ x ∈ b,Res p x) (la : a.length = U.toNat + 1) (lb : b.length = U.toNat + 1) :
  ∃ q : List Int,Ev (fun k => privityref43_Quotient.f k p (vanZ p N U bad) a b da db) q ∧ (∀ x ∈ q,Res p x) ∧ ∀ j,q.getD j 0 = (wqL p (vanZ p N U bad) da db a b).getD j 0 := by
 have hp := h.ok.hp
 haveI := nz hp
 have ht := h.t
 have hzl := vanZ_length h.ok
 have hzr : ∀ x ∈ vanZ p N U bad,Res p x := van_res hp h.ok.van
 obtain ⟨z,hz⟩ : ∃ z,z = vanZ p N U bad := ⟨_,rfl⟩
 have hlast : z.getD (z.length - 1) 0 ≠ 0 := by
  rw [hz]
  have h1 := van_last hp h.ok.van
  have h2 := extB_length h.ok.coa
  rwa [show (vanZ p N U bad).length - 1 = (extB N U bad).length by omega]
 rw [← hz] at hzl hzr
 have l1 := rbyL_length p z da a
 have l2 := rbyL_length p z db b
 have l3 := mulsL_length p (rbyL p z da a) (rbyL p z db b) (rbyL p z da a).length
 have l3' := trimL_length (mulsL p (rbyL p z da a) (rbyL p z db b) (rbyL p z da a).length)
 have l4 := mulsL_length p a b a.length
 have l4' := trimL_length (mulsL p a b a.length)
 obtain ⟨m,hm⟩ : ∃ m,m = trimL (rsubL p (trimL (mulsL p (rbyL p z da a) (rbyL p z db b) (rbyL p z da a).length)) (trimL (mulsL p a b a.length))) := ⟨_,rfl⟩
 have lm : m.length ≤ 12 := by
  rw [hm]
  have h5 := trimL_length (rsubL p (trimL (mulsL p (rbyL p z da a) (rbyL p z db b) (rbyL p z da a).length)) (trimL (mulsL p a b a.length)))
  have h6 := rsubL_length p (trimL (mulsL p (rbyL p z da a) (rbyL p z db b) (rbyL p z da a).length)) (trimL (mulsL p a b a.length))
  omega
 have rm : ∀ x ∈ m,Res p x := by rw [hm];exact fun x hx => rsubL_res hp _ _ x (trimL_mem hx)
 obtain ⟨q,r,hev,hq,hr,lq,lr,e⟩ := rdm_ev hp (a := m) (b := z) rm hzr (by omega) (by omega) (by omega) hlast
 have evm : ∀ x : Fin p.toNat,ev x (M p m) = ev x (M p (rbyL p z da a)) * ev x (M p (rbyL p z db b)) - ev x (M p a) * ev x (M p b) := fun x => by
  rw [hm,ev_trimL x,rsubL_ev hp,mul_ev2 hp,mul_ev2 hp]
 refine ⟨q,?_,hq,fun j => ?_⟩
 ·unfold privityref43_Quotient.f
  rw [← hz]
  have s1 := rscale_ev hp rda z hzr (by omega)
  have s2 := rscale_ev hp rdb z hzr (by omega)
  have m1 := trimL_length (z.map fun v => da * v % p)
  have m2 := trimL_length (z.map fun v => db * v % p)
  rw [List.length_map] at m1 m2
  have rs : ∀ d : Int,∀ x ∈ trimL (z.map fun v => d * v % p),Res p x := fun d x hx => by
   obtain ⟨y,_,rfl⟩ := List.mem_map.1 (trimL_mem hx)
   exact Res.mod hp _
  have e1 := rmulL_ev hp (rbyL_res hp z da a) (rbyL_res hp z db b) (by omega) (by omega)
  have e2 := rmulL_ev hp ha hb (by omega) (by omega)
  have e3 := rsub_ev hp (a := trimL (mulsL p (rbyL p z da a) (rbyL p z db b) (rbyL p z da a).length)) (b := trimL (mulsL p a b a.length)) (fun x hx => mulsL_res hp _ _ _ x (trimL_mem hx)) (fun x hx => mulsL_res hp _ _ _ x (trimL_mem hx)) (by omega) (by omega)
  rw [← hm] at e3
  refine Ev.bind s1 (Ev.bind (rradd_ev hp ha (rs da) (by omega) (by omega)) (Ev.bind s2 (Ev.bind (rradd_ev hp hb (rs db) (by omega) (by omega)) ?_)))
  exact Ev.bind e1 (Ev.bind e2 (Ev.bind e3 (Ev.bind hev (Ev.now _))))
 ·rw [hz] at e lr evm hzl
  have hu := quot_uniq h hq hr (wqL_res hp (vanZ p N U bad) da db a b) (by omega) (by omega) (by rw [wqL_length];omega) (fun x => by
   rw [← e x,evm,rby_ev hp,rby_ev hp,ev_wq hp x da db (by omega) (by omega)]
   grind)
  rw [← trimL_getD q j,hu,trimL_getD]
theorem fit_ev (f : List Int) (n : Nat) (hn : n ≤ 1000) : Ev (fun k => privityref43_Fit.f k f (n : Int)) (tabL n fun i => f.getD i 0) := by
 unfold privityref43_Fit.f
 refine up (Q := fun i => Ev (fun k => privityref43_Fit.l0 k f (n : Int) (tabL i fun i => f.getD i 0) (i : Int)) (tabL n fun i => f.getD i 0)) (n := n) ?_ fun i hi h => ?_
 ·refine Ev.step (fun k => ?_) (Ev.now _)
  simp only [privityref43_Fit.l0]
  rw [if_neg (by omega)]
 ·rw [tabL_succ] at h
  refine Ev.step (fun k => ?_) h
  simp only [privityref43_Fit.l0]
  rw [if_pos (by omega),rcoef_eq,Option.bind_some,tabL_length,if_pos (by omega),wnat (by omega)]
theorem rdS_at2 (s : List (List Int)) (i j : Nat) : rd (rd_L4 s (i : Int)) (j : Int) = at2 s i j := by rw [rdR_nat];exact rd_nat _ j
theorem matL_resS {p : Int} {n : Nat} {g : Nat → Nat → Int} (h : ∀ i j,Res p (g i j)) : ResM p (matL n g) := fun r hr x hx => by
 obtain ⟨i,_,rfl⟩ := List.mem_map.1 hr
 exact tabL_res (fun j _ => h i j) x hx
theorem transS_ev {p : Int} (hp : Supp p) {n : Nat} {s : List (List Int)} (hq : Sq n s) (hr : ResM p s) (hn : n ≤ 1000) {d : Int} (hd : Res p d) {z : List Int} (hz : ∀ x ∈ z,Res p x) (hzl : z.length = n) :
  Ev (fun k => privityref10_Translate.f k p s d z) (matL n (trG p d (fun a => z.getD a 0) (at2 s))) := by
 have hl := hq.len
 obtain ⟨G,hG⟩ : ∃ G,G = trG p d (fun a => z.getD a 0) (at2 s) := ⟨_,rfl⟩
 rw [← hG]
 have main : Ev (fun k => privityref10_Translate.l0 k p s d z (matP n G 0) ((0 : Nat) : Int)) (matL n G) := by
  refine up (Q := fun i => Ev (fun k => privityref10_Translate.l0 k p s d z (matP n G i) (i : Int)) (matL n G)) (n := n) ?_ (fun i hi h => ?_)
  ·refine Ev.step (f := fun _ => some (matL n G)) (fun k => ?_) (Ev.now _)
   simp only [privityref10_Translate.l0]
   rw [if_neg (by omega)];rfl
  ·have hrl : (rd_L4 s (i : Int)).length = n := by rw [rdR_nat];exact hq.getD i hi
   have hin : Ev (fun k => privityref10_Translate.l1 k p s d z (matP n G i) (i : Int) (tabL 0 (G i)) ((0 : Nat) : Int)) (matL n G) := by
    refine up (Q := fun j => Ev (fun k => privityref10_Translate.l1 k p s d z (matP n G i) (i : Int) (tabL j (G i)) (j : Int)) (matL n G)) (n := n) ?_ (fun j hj h2 => ?_)
    ·rw [matP_succ] at h
     refine Ev.step (fun k => ?_) h
     simp only [privityref10_Translate.l1]
     rw [if_neg (by omega),if_pos (by rw [matP_length];omega),wnat (by omega)]
    ·rw [tabL_succ] at h2
     have hv : G i j = (at2 s i j + d * (z.getD i 0 * z.getD j 0 % p) % p) % p := by rw [hG];rfl
     rw [hv] at h2
     refine Ev.step (f := fun k => (privityref01_Mul.f k p (z.getD i 0) (z.getD j 0)).bind fun t => ((privityref01_Mul.f k p d t).bind fun t2 => ((privityref01_Add.f p (at2 s i j) t2).bind fun t3 => (if (tabL j (G i)).length < 17592186044416 then privityref10_Translate.l1 k p s d z (matP n G i) (i : Int) (tabL j (G i) ++ [t3]) ((j + 1 : Nat) : Int) else none)))) (fun k => ?_)
      (Ev.bind (rmul_ev hp (res_getD hp hz i) (res_getD hp hz j)) (Ev.bind (rmul_ev hp hd (Res.mod hp _)) (ev_now_bind (radd_eq hp (hr.at2 hp i j) (Res.mod hp _)) (h2.congr fun k => if_pos (by rw [tabL_length];omega)))))
     simp only [privityref10_Translate.l1]
     rw [if_pos (by omega),if_pos (by omega),if_pos (by omega),if_pos (by omega),if_pos (by omega),if_pos (by omega),if_pos (by omega),rdS_at2,rd_nat,rd_nat,wnat (by omega)]
   refine Ev.step (fun k => ?_) hin
   simp only [privityref10_Translate.l0]
   rw [if_pos (by omega)];rfl
 exact main.congr fun k => rfl
theorem restS_ev {T : Int} (hT : T = 1 ∨ T = 2) {q r : List Int} (lq : q.length = T.toNat + 1) (lr : r.length = T.toNat * (T.toNat + 1) / 2) : Ev (fun k => privityref43_rest.f k (matL (T.toNat + 1) (newG (T.toNat + 1) q r))) r := by
 have hrow : ∀ i : Nat,i < T.toNat + 1 → rd_L4 (matL (T.toNat + 1) (newG (T.toNat + 1) q r)) (i : Int) = tabL (T.toNat + 1) (newG (T.toNat + 1) q r i) := fun i hi => by rw [rdR_nat];exact matP_getD _ _ _ _ hi
 have hlen : (matL (T.toNat + 1) (newG (T.toNat + 1) q r)).length = T.toNat + 1 := matP_length _ _ _
 have go : ∀ (acc tail : List Int) (i : Nat),i < T.toNat + 1 → acc.length ≤ 100 → (tabL (T.toNat + 1) (newG (T.toNat + 1) q r i)).drop i = tail → ∀ X,Ev (fun k => privityref43_rest.l0 k (matL (T.toNat + 1) (newG (T.toNat + 1) q r)) (acc ++ tail) ((i + 1 : Nat) : Int)) X → Ev (fun k => privityref43_rest.l0 k (matL (T.toNat + 1) (newG (T.toNat + 1) q r)) acc (i : Int)) X := fun acc tail i hi ha ht X h => by
  have hn : T.toNat + 1 ≤ 3 := by rcases hT with rfl|rfl <;> decide
  have hd : tail.length ≤ 3 := by rw [← ht,List.length_drop,tabL_length];omega
  refine Ev.step (fun k => ?_) h
  simp only [privityref43_rest.l0]
  rw [if_pos (by omega),if_pos (by omega),hrow i hi,if_pos (by rw [tabL_length];omega),Int.toNat_natCast,ht,if_pos (by omega),wnat (by omega)]
 have fin : Ev (fun k => privityref43_rest.l0 k (matL (T.toNat + 1) (newG (T.toNat + 1) q r)) r ((T.toNat + 1 : Nat) : Int)) r := by
  refine Ev.step (fun k => ?_) (Ev.now _)
  simp only [privityref43_rest.l0]
  rw [if_neg (by omega)]
 unfold privityref43_rest.f
 rcases hT with rfl|rfl
 ·have h1 : r.length = 1 := lr
  refine go [] [newG 2 q r 1 1] 1 (by decide) (by decide) rfl _ ?_
  have e : [] ++ [newG 2 q r 1 1] = r := by
   rw [sole h1];rfl
  rw [e];exact fin
 ·have h1 : r.length = 3 := lr
  refine go [] [newG 3 q r 1 1,newG 3 q r 1 2] 1 (by decide) (by decide) rfl _ ?_
  refine go ([] ++ [newG 3 q r 1 1,newG 3 q r 1 2]) [newG 3 q r 2 2] 2 (by decide) (by simp) rfl _ ?_
  have e : [] ++ [newG 3 q r 1 1,newG 3 q r 1 2] ++ [newG 3 q r 2 2] = r := by
   rw [three h1];rfl
  rw [e];exact fin
theorem moved_ev {p N T : Int} {bad z : List Int} (hp : Supp p) (hT : T = 1 ∨ T = 2) (hz : Zs p N T bad z) {d : Int} (hd : Res p d) {q r : List Int} (hq : ∀ x ∈ q,Res p x) (hr : ∀ x ∈ r,Res p x) (lq : q.length = T.toNat + 1) (lr : r.length = T.toNat * (T.toNat + 1) / 2) :
  Ev (fun k => privityref43_moved.f k p z d q r) (byL p z d q,byL p (wL p T z) d r) := by
 have hn : T.toNat + 1 ≤ 3 := by rcases hT with rfl|rfl <;> decide
 have lq' : (byL p z d q).length = T.toNat + 1 := by rw [byL_length,lq]
 have lr' : (byL p (wL p T z) d r).length = T.toNat * (T.toNat + 1) / 2 := by rw [byL_length,lr]
 have ht := transS_ev hp (matL_sq (T.toNat + 1) (newG (T.toNat + 1) q r)) (matL_resS fun i j => newG_res hp hq hr _ _ _) (by omega) hd hz.res hz.len
 have he : matL (T.toNat + 1) (trG p d (fun a => z.getD a 0) (at2 (matL (T.toNat + 1) (newG (T.toNat + 1) q r)))) = matL (T.toNat + 1) (newG (T.toNat + 1) (byL p z d q) (byL p (wL p T z) d r)) := matP_congr fun i hi j hj => by
  rw [newG_shift hp hT hz.res hz.z0 d lq lr i hi j hj]
  unfold trG
  rw [at2_matL hi hj]
 rw [he] at ht
 have h0 : rd_L4 (matL (T.toNat + 1) (newG (T.toNat + 1) (byL p z d q) (byL p (wL p T z) d r))) 0 = byL p z d q := by
  refine (rdR_nat _ 0).trans ((matP_getD _ _ _ _ (by omega)).trans ?_)
  refine (tabL_congr fun j hj => ?_).trans (lq' ▸ tabL_of (byL p z d q))
  unfold newG
  rw [if_pos (by omega),Nat.zero_max]
 unfold privityref43_moved.f
 refine ev_now_bind (rnew_eq hT lq lr) (Ev.bind ht ?_)
 refine Ev.congr (fun k => Option.bind_some _ _) ?_
 refine Ev.congr (fun k => if_pos (by rw [show (matL (T.toNat + 1) (newG (T.toNat + 1) (byL p z d q) (byL p (wL p T z) d r))).length = T.toNat + 1 from matP_length _ _ _];omega)) ?_
 rw [h0]
 refine Ev.congr (fun k => if_pos (by rw [List.length_nil];omega)) ?_
 exact Ev.bind (restS_ev hT lq' lr') (Ev.now _)
def hL (p T : Int) (w : List Int) : List Int := cutL p w 0 (2 * (T.toNat + 1) + T.toNat * T.toNat)
def lL (p T : Int) (w : List Int) : List Int := cutL p w (2 * (T.toNat + 1) + T.toNat * T.toNat) ((T.toNat + 3) * (T.toNat * (T.toNat + 1) / 2))
theorem triple_ev {p : Int} (hp : Supp p) (N : Int) {T : Int} (hT : T = 1 ∨ T = 2) (bad : List Int) (da db : Int) {w : List Int} (hw : ∀ x ∈ w,0 ≤ x) : Ev (fun k => privitylaw43_triple.f k p N T bad da db w) (hL p T w,lL p T w) := by
 unfold privitylaw43_triple.f
 rcases hT with rfl|rfl
 ·have h1 := cut_ev hp N 1 bad da db hw 0 5 (by omega) (by omega)
  have h2 := cut_ev hp N 1 bad da db hw 5 4 (by omega) (by omega)
  have a1 : wrap64 (wrap64 (2 * wrap64 ((1 : Int) + 1)) + wrap64 (1 * 1)) = 5 := by kernel_rfl
  have a2 : wrap64 (Int.tdiv (wrap64 (wrap64 (wrap64 ((1 : Int) + 3) * 1) * wrap64 (1 + 1))) 2) = 4 := by kernel_rfl
  rw [a1,a2]
  exact Ev.bind h1 (Ev.bind h2 (Ev.now _))
 ·have h1 := cut_ev hp N 2 bad da db hw 0 10 (by omega) (by omega)
  have h2 := cut_ev hp N 2 bad da db hw 10 15 (by omega) (by omega)
  have a1 : wrap64 (wrap64 (2 * wrap64 ((2 : Int) + 1)) + wrap64 (2 * 2)) = 10 := by kernel_rfl
  have a2 : wrap64 (Int.tdiv (wrap64 (wrap64 (wrap64 ((2 : Int) + 3) * 2) * wrap64 (2 + 1))) 2) = 15 := by kernel_rfl
  rw [a1,a2]
  exact Ev.bind h1 (Ev.bind h2 (Ev.now _))
theorem hL_length (p T : Int) (w : List Int) : (hL p T w).length = 2 * (T.toNat + 1) + T.toNat * T.toNat := cutL_length _ _ _ _
theorem lL_length (p T : Int) (w : List Int) : (lL p T w).length = (T.toNat + 3) * (T.toNat * (T.toNat + 1) / 2) := cutL_length _ _ _ _
theorem tri_eq {p N T : Int} {bad : List Int} (h : mayB p N T bad = true) {da db : Int} (rda : Res p da) (rdb : Res p db) {head rests : List Int} (rh : ∀ x ∈ head,Res p x) (rr : ∀ x ∈ rests,Res p x) (lh : head.length = 2 * (T.toNat + 1) + T.toNat * T.toNat) (lr : rests.length = (T.toNat + 3) * (T.toNat * (T.toNat + 1) / 2)) :
  tapeshift_Triple.f p N T bad da db head rests = some (triH p N T bad da db head,triR p N T bad da db head rests) := by
 unfold tapeshift_Triple.f
 rw [if_pos h,if_pos (resB_iff.2 rda),if_pos (resB_iff.2 rdb),if_pos (ressB_iff.2 rh),if_pos (ressB_iff.2 rr),if_pos lh,if_pos lr]
theorem triH_len (p N : Int) {T : Int} (bad : List Int) (da db : Int) (hT : T = 1 ∨ T = 2) {head : List Int} (lh : head.length = 2 * (T.toNat + 1) + T.toNat * T.toNat) : (triH p N T bad da db head).length = head.length := by
 have hD : ∀ m,(triD p N T bad da db head m).length = ((head.drop (2 * (T.toNat + 1) + (m - 1) * T.toNat)).take T.toNat).length := fun m => byL_length _ _ _ _
 unfold triH
 rw [List.length_append,List.length_append,byL_length,byL_length]
 rcases hT with rfl|rfl
 ·have h1 := hD 1
  have h5 : head.length = 5 := lh
  rw [List.length_take,List.length_drop,h5] at h1
  rw [show Int.toNat 1 = 1 from rfl] at h1 ⊢
  simp only [catF,List.length_append,List.length_nil,h1,List.length_take,List.length_drop,h5]
  decide
 ·have h1 := hD 1
  have h2 := hD 2
  have h5 : head.length = 10 := lh
  rw [List.length_take,List.length_drop,h5] at h1 h2
  rw [show Int.toNat 2 = 2 from rfl] at h1 h2 ⊢
  simp only [catF,List.length_append,List.length_nil,h1,h2,List.length_take,List.length_drop,h5]
  decide
theorem triR_len (p N : Int) {T : Int} (bad : List Int) (da db : Int) (hT : T = 1 ∨ T = 2) (head : List Int) {rests : List Int} (lr : rests.length = (T.toNat + 3) * (T.toNat * (T.toNat + 1) / 2)) : (triR p N T bad da db head rests).length = rests.length := by
 have hE : ∀ m,(triE p N T bad da db head rests m).length = ((rests.drop ((if m = 0 then T.toNat + 2 else m + 1) * (T.toNat * (T.toNat + 1) / 2))).take (T.toNat * (T.toNat + 1) / 2)).length := fun m => byL_length _ _ _ _
 unfold triR
 rw [List.length_append,List.length_append,List.length_append,byL_length,byL_length]
 rcases hT with rfl|rfl
 ·have h0 := hE 0
  have h1 := hE 1
  have h5 : rests.length = 4 := lr
  rw [List.length_take,List.length_drop,h5] at h0 h1
  rw [show Int.toNat 1 = 1 from rfl] at h0 h1 ⊢
  simp only [catF,List.length_append,List.length_nil,h0,h1,List.length_take,List.length_drop,h5]
  decide
 ·have h0 := hE 0
  have h1 := hE 1
  have h2 := hE 2
  have h5 : rests.length = 15 := lr
  rw [List.length_take,List.length_drop,h5] at h0 h1 h2
  rw [show Int.toNat 2 = 2 from rfl] at h0 h1 h2 ⊢
  simp only [catF,List.length_append,List.length_nil,h0,h1,h2,List.length_take,List.length_drop,h5]
  decide
end Go.Proofs.Ytejeelpnmdfibaa.E
end
