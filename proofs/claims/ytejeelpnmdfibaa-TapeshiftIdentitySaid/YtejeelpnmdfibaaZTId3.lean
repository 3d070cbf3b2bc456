/- Part 3 of the proof's texts, joined in build order. -/
import Derived.Test.YtejeelpnmdfibaaZTId2
import Derived.Laws.BitsAllLaws
import Derived.KernelRfl
import Derived.Deep.QuietTactic
import Derived.BigQuiet
import Derived.StillTail
import Derived.Lib.Hide
import Derived.Lib.SliceRun
import Derived.Deep.RegionHeld3
section
/-
  The field's printed functions answer as arithmetic modulo a supported prime does: width, fold, Add, Neg, Sub, Mul, Pow, Inverse.
-/
namespace Go.Proofs.Ytejeelpnmdfibaa.E
open Go.RowKit Go.Proofs.Ytejeelpnmdfibaa.Pr Go.Proofs.Ytejeelpnmdfibaa.Hw Go.Proofs.YtejeelpnmdfibaaW.PrintWords Go.Proofs.YtejeelpnmdfibaaW.PrintLast Go.Proofs.YtejeelpnmdfibaaW.PrintMore Go.Proofs.Ytejeelpnmdfibaa.Fd
set_option linter.unusedVariables false
set_option linter.unusedSimpArgs false

/-- A supported prime and its exponent. -/
def Sup (p : Int) (q : Nat) : Prop :=
  (p = 31 ∧ q = 5) ∨ (p = 127 ∧ q = 7) ∨ (p = 8191 ∧ q = 13) ∨ (p = 131071 ∧ q = 17) ∨ (p = 524287 ∧ q = 19) ∨ (p = 2147483647 ∧ q = 31) ∨ (p = 2305843009213693951 ∧ q = 61)
def Supp (p : Int) : Prop := ∃ q, Sup p q
theorem Sup.width {p : Int} {q : Nat} (h : Sup p q) : Ev (fun k => field_width.f k p) (q : Int) := by
  refine Ev.of (field_width.mono p) (k := 3) ?_
  rcases h with ⟨rfl, rfl⟩ | ⟨rfl, rfl⟩ | ⟨rfl, rfl⟩ | ⟨rfl, rfl⟩ | ⟨rfl, rfl⟩ | ⟨rfl, rfl⟩ | ⟨rfl, rfl⟩ <;> kernel_rfl
theorem Sup.eq {p : Int} {q : Nat} (h : Sup p q) : p = 2 ^ q - 1 := by
  rcases h with ⟨rfl, rfl⟩ | ⟨rfl, rfl⟩ | ⟨rfl, rfl⟩ | ⟨rfl, rfl⟩ | ⟨rfl, rfl⟩ | ⟨rfl, rfl⟩ | ⟨rfl, rfl⟩ <;> rfl
theorem Sup.q5 {p : Int} {q : Nat} (h : Sup p q) : 5 ≤ q ∧ q ≤ 61 := by unfold Sup at h; omega
theorem Sup.bd {p : Int} {q : Nat} (h : Sup p q) : 31 ≤ p ∧ p ≤ 2305843009213693951 := by unfold Sup at h; omega
theorem Supp.bd {p : Int} (h : Supp p) : 31 ≤ p ∧ p ≤ 2305843009213693951 := h.elim fun _ h => h.bd
theorem Supp.good {p : Int} (h : Supp p)  : Fd.Good p.toNat := by
  obtain ⟨q, h⟩ := h
  rcases h with ⟨rfl, _⟩ | ⟨rfl, _⟩ | ⟨rfl, _⟩ | ⟨rfl, _⟩ | ⟨rfl, _⟩ | ⟨rfl, _⟩ | ⟨rfl, _⟩
  · exact good31
  · exact good127
  · exact good8191
  · exact good131071
  · exact good524287
  · exact good2147483647
  · exact good2305843009213693951
theorem wrapU (n : Int) : IntKind.u64.wrap n = n % 18446744073709551616 := by simp [IntKind.wrap, IntKind.bits, IntKind.signed]
theorem wrapU_id {n : Int} (h0 : 0 ≤ n) (h1 : n < 18446744073709551616) : IntKind.u64.wrap n = n := by rw [wrapU]; exact Int.emod_eq_of_lt h0 h1
theorem pow_le_61 {q : Nat} (hq : q ≤ 61) : 2 ^ q ≤ 2305843009213693952 := by
  have : 2 ^ q ≤ 2 ^ 61 := Nat.pow_le_pow_right (by decide) hq
  have e : (2 : Nat) ^ 61 = 2305843009213693952 := by decide
  omega
theorem and_mask (x : Nat) (hx : x < 18446744073709551616) (q : Nat) (hq : q ≤ 61) : Go.bits .and .u64 (x : Int) ((2 ^ q - 1 : Nat) : Int) = ((x % 2 ^ q : Nat) : Int) := by
  have := pow_le_61 hq
  rw [u64_and_nat x (2 ^ q - 1) hx (by omega), Nat.and_two_pow_sub_one_eq_mod]
/-- One round of fold, in naturals: the 128-bit number, divided. -/
theorem or_part (hi lo : Nat) (h1 : hi < 18446744073709551616) (h2 : lo < 18446744073709551616) (q : Nat) (hq : 5 ≤ q) (hq' : q ≤ 61) :
    Go.bits .or .u64 ((lo / 2 ^ q : Nat) : Int) ((hi * 2 ^ (64 - q) % 18446744073709551616 : Nat) : Int) = (((hi * 18446744073709551616 + lo) / 2 ^ q % 18446744073709551616 : Nat) : Int) := by
  have e64 : (18446744073709551616 : Nat) = 2 ^ (64 - q) * 2 ^ q := by
    rw [← Nat.pow_add, show 64 - q + q = 64 from by omega]
  have hlo : lo / 2 ^ q < 2 ^ (64 - q) := by rw [Nat.div_lt_iff_lt_mul (Nat.two_pow_pos _), ← e64]; exact h2
  rw [u64_or_nat _ _ (by have := Nat.div_le_self lo (2 ^ q); omega) (Nat.mod_lt _ (by decide))]
  congr 1
  have e1 : hi * 2 ^ (64 - q) % 18446744073709551616 = 2 ^ (64 - q) * (hi % 2 ^ q) := by
    rw [e64, Nat.mul_comm hi, Nat.mul_mod_mul_left]
  have e2 : (hi * 18446744073709551616 + lo) / 2 ^ q = 2 ^ (64 - q) * hi + lo / 2 ^ q := by
    rw [e64, ← Nat.mul_assoc, Nat.add_comm, Nat.add_mul_div_right _ _ (Nat.two_pow_pos _), Nat.add_comm, Nat.mul_comm hi]
  have hm := Nat.mod_lt hi (Nat.two_pow_pos q)
  have e3 := Nat.div_add_mod hi (2 ^ q)
  rw [e1, e2, Nat.or_comm, ← Nat.two_pow_add_eq_or_of_lt hlo]
  generalize hi % 2 ^ q = m at *
  generalize lo / 2 ^ q = l at *
  have e4 : 2 ^ (64 - q) * hi + l = 18446744073709551616 * (hi / 2 ^ q) + (2 ^ (64 - q) * m + l) := by
    generalize hi / 2 ^ q = d at *
    rw [← e3, Nat.mul_add, ← Nat.mul_assoc, ← e64, Nat.add_assoc]
  have e5 : 2 ^ (64 - q) * m + l < 18446744073709551616 := by
    have : 2 ^ (64 - q) * (m + 1) ≤ 2 ^ (64 - q) * 2 ^ q := Nat.mul_le_mul_left _ hm
    rw [← e64, Nat.mul_add] at this
    omega
  rw [e4, Nat.mul_add_mod, Nat.mod_eq_of_lt e5]
theorem step_mod (N q : Nat) : (N / 2 ^ q + N % 2 ^ q) % (2 ^ q - 1) = N % (2 ^ q - 1) := by
  have h := Nat.div_add_mod N (2 ^ q)
  have h2 : 0 < 2 ^ q := Nat.two_pow_pos q
  generalize N / 2 ^ q = d at *
  generalize N % 2 ^ q = m at *
  have : N = (2 ^ q - 1) * d + (d + m) := by
    rw [← h, Nat.sub_mul, Nat.one_mul]
    have : d ≤ 2 ^ q * d := Nat.le_mul_of_pos_left d h2
    omega
  rw [this, Nat.mul_add_mod]
theorem shrN (x q : Nat) (hq : q ≤ 64) : shr .u64 (x : Int) (q : Int) = ((x / 2 ^ q : Nat) : Int) := by
  unfold shr
  rw [show min (q : Int).toNat IntKind.u64.bits = q from by simp [IntKind.bits]; omega]
  simp
theorem shlN (x q : Nat) (hq : q ≤ 64) : shl .u64 (x : Int) (q : Int) = ((x * 2 ^ q % 18446744073709551616 : Nat) : Int) := by
  unfold shl
  rw [show min (q : Int).toNat IntKind.u64.bits = q from by simp [IntKind.bits]; omega, wrapU]
  simp
theorem fold_l0 {p : Int} {q : Nat} (h : Sup p q) : ∀ (N hi lo : Nat), hi < 18446744073709551616 → lo < 18446744073709551616 → hi * 18446744073709551616 + lo = N →
    Ev (fun k => field_fold.l0 k p hi lo q) ((N % p.toNat : Nat) : Int) := by
  have hq := h.q5
  have hp := h.eq
  have hpow := pow_le_61 hq.2
  have hpn : p = ((2 ^ q - 1 : Nat) : Int) := by
    rw [hp, Int.natCast_sub (Nat.one_le_two_pow)]
    simp
  have hpn' : p.toNat = 2 ^ q - 1 := by rw [hpn]; rfl
  have h32 : 2 ^ 5 ≤ 2 ^ q := Nat.pow_le_pow_right (n := 2) (by decide) hq.1
  intro N
  induction N using Nat.strongRecOn with
  | _ N ih =>
    intro hi lo h1 h2 hN
    have hround : 2 ^ q ≤ N → Ev (fun k => (bits_Add64.f (Go.bits .or .u64 (shr .u64 lo q) (shl .u64 hi (IntKind.u64.wrap (64 - q)))) (Go.bits .and .u64 lo p) 0).bind fun bt239 => (field_fold.l0 k p (IntKind.u64.wrap ((shr .u64 hi q) + bt239.2)) bt239.1 q)) ((N % p.toNat : Nat) : Int) := by
      intro hc
      have e64 : (18446744073709551616 : Nat) = 2 ^ (64 - q) * 2 ^ q := by
        rw [← Nat.pow_add, show 64 - q + q = 64 from by omega]
      have hw : IntKind.u64.wrap (64 - q) = ((64 - q : Nat) : Int) := by rw [wrapU_id (by omega) (by omega)]; omega
      have eA := or_part hi lo h1 h2 q hq.1 hq.2
      have eB : lo % 2 ^ q = N % 2 ^ q := by rw [← hN, e64, ← Nat.mul_assoc, Nat.mul_comm _ (2 ^ q), Nat.mul_add_mod]
      have eC : hi / 2 ^ q = N / 2 ^ q / 18446744073709551616 := by
        rw [Nat.div_div_eq_div_mul, Nat.mul_comm, ← Nat.div_div_eq_div_mul, ← hN, Nat.mul_comm hi, Nat.mul_add_div (by decide), Nat.div_eq_of_lt h2, Nat.add_zero]
      rw [hw, shrN lo q (by omega), shrN hi q (by omega), shlN hi _ (by omega), eA, hN, hpn, and_mask lo h2 q hq.2, eB, eC]
      have hN128 : N < 18446744073709551616 * 18446744073709551616 := by rw [← hN]; omega
      have hdm := Nat.div_add_mod N (2 ^ q)
      have hmlt := Nat.mod_lt N (Nat.two_pow_pos q)
      have hstep := step_mod N q
      have hd1 : 1 ≤ N / 2 ^ q := (Nat.le_div_iff_mul_le (Nat.two_pow_pos q)).2 (by omega)
      rw [← hpn, hpn'] at *
      have hlt : N / 2 ^ q + N % 2 ^ q < N := by
        have : 2 * (N / 2 ^ q) ≤ 2 ^ q * (N / 2 ^ q) := Nat.mul_le_mul_right _ (by omega)
        omega
      rw [← hstep]
      generalize N / 2 ^ q = d at *
      generalize N % 2 ^ q = m at *
      have hb : bits_Add64.f ((d % 18446744073709551616 : Nat) : Int) (m : Int) 0 = some ((((d % 18446744073709551616 + m) % 18446744073709551616 : Nat) : Int), (((d % 18446744073709551616 + m) / 18446744073709551616 : Nat) : Int)) := by
        unfold bits_Add64.f
        rw [if_pos (by omega), if_pos (by omega), if_pos (by omega), if_pos (by omega)]
        simp
      rw [hb]
      simp only [Option.bind_some]
      have e9 : IntKind.u64.wrap (((d / 18446744073709551616 : Nat) : Int) + (((d % 18446744073709551616 + m) / 18446744073709551616 : Nat) : Int)) = (((d + m) / 18446744073709551616 : Nat) : Int) := by
        rw [wrapU_id (by omega) (by omega)]; omega
      rw [e9, show (d % 18446744073709551616 + m) % 18446744073709551616 = (d + m) % 18446744073709551616 from by omega]
      have := ih (d + m) hlt ((d + m) / 18446744073709551616) ((d + m) % 18446744073709551616) (by omega) (by omega) (Nat.div_add_mod' _ _)
      rwa [hpn'] at this
    by_cases hhi : hi = 0
    · subst hhi
      by_cases hlo : (lo : Int) > p
      · refine Ev.step (fun k => ?_) (hround (by omega))
        simp only [field_fold.l0]
        rw [if_pos (by rfl), if_pos hlo, if_pos (by omega), if_pos (by rw [wrapU_id (by omega) (by omega)]; omega)]
      · refine Ev.of (fun k => (field_fold.mono_l k) _ _ _ _) (k := 1) ?_
        simp only [field_fold.l0]
        rw [if_pos (by rfl), if_neg hlo]
        have hN' : N = lo := by omega
        by_cases e : (lo : Int) = p
        · rw [if_pos e, hN', show p.toNat = lo from by omega, Nat.mod_self]; rfl
        · rw [if_neg e, hN', Nat.mod_eq_of_lt (by omega)]
    · refine Ev.step (fun k => ?_) (hround (by omega))
      simp only [field_fold.l0]
      rw [if_neg (by omega), if_pos (by omega), if_pos (by rw [wrapU_id (by omega) (by omega)]; omega)]
theorem fold_ev {p : Int} (h : Supp p) (hi lo : Int) (h0 : 0 ≤ hi) (h1 : hi < 18446744073709551616) (h2 : 0 ≤ lo) (h3 : lo < 18446744073709551616) :
    Ev (fun k => field_fold.f k p hi lo) ((hi * 18446744073709551616 + lo) % p) := by
  obtain ⟨q, h⟩ := h
  have := h.bd
  refine (Ev.bind (f := fun k t => field_fold.l0 k p hi lo t) h.width (a := q) ?_).congr fun k => rfl
  have := fold_l0 h _ hi.toNat lo.toNat (by omega) (by omega) rfl
  rw [Int.toNat_of_nonneg h0, Int.toNat_of_nonneg h2] at this
  have e : (((hi.toNat * 18446744073709551616 + lo.toNat) % p.toNat : Nat) : Int) = (hi * 18446744073709551616 + lo) % p := by
    rw [Int.natCast_emod, Int.natCast_add, Int.natCast_mul, Int.toNat_of_nonneg h0, Int.toNat_of_nonneg h2, Int.toNat_of_nonneg (by omega)]; rfl
  rwa [e] at this
/-- A residue. -/
def Res (p a : Int) : Prop := 0 ≤ a ∧ a < p
theorem Res.mod {p : Int} (h : Supp p) (a : Int) : Res p (a % p) := by
  have := h.bd
  exact ⟨Int.emod_nonneg _ (by omega), Int.emod_lt_of_pos _ (by omega)⟩
theorem Res.eq {p a : Int} (h : Res p a) : a % p = a := Int.emod_eq_of_lt h.1 h.2
theorem add_ev {p : Int} (h : Supp p) {a b : Int} (ha : Res p a) (hb : Res p b) : Ev (fun k => field_Add.f k p a b) ((a + b) % p) := by
  have := h.bd
  obtain ⟨a0, a1⟩ := ha
  obtain ⟨b0, b1⟩ := hb
  have e := fold_ev h 0 (a + b) (by omega) (by omega) (by omega) (by omega)
  rw [Int.zero_mul, Int.zero_add] at e
  refine (Ev.bind (f := fun k t => some t) e (Ev.now _)).congr fun k => ?_
  show (field_fold.f k p 0 (IntKind.u64.wrap (a + b))).bind _ = _
  rw [wrapU_id (by omega) (by omega)]
theorem neg_eq {p : Int} (h : Supp p) {a : Int} (ha : Res p a) : field_Neg.f p a = some (-a % p) := by
  have := h.bd
  obtain ⟨a0, a1⟩ := ha
  unfold field_Neg.f
  by_cases e : a = 0
  · rw [if_pos e, e]; simp
  · rw [if_neg e, wrapU_id (by omega) (by omega), show -a = (p - a) + p * (-1) from by omega, Int.add_mul_emod_self_left, Int.emod_eq_of_lt (by omega) (by omega)]
theorem sub_ev {p : Int} (h : Supp p) {a b : Int} (ha : Res p a) (hb : Res p b) : Ev (fun k => field_Sub.f k p a b) ((a - b) % p) := by
  have e := add_ev h ha (Res.mod h (-b))
  rw [show (a + -b % p) % p = (a - b) % p from by rw [Int.add_emod, Int.emod_emod_of_dvd _ (Int.dvd_refl p), ← Int.add_emod, Int.sub_eq_add_neg]] at e
  refine (Ev.bind (f := fun k t => some t) e (Ev.now _)).congr fun k => ?_
  show (field_Neg.f p b).bind _ = _
  rw [neg_eq h hb]
  rfl
theorem mul64_eq {a b : Int} (a0 : 0 ≤ a) (a1 : a < 2305843009213693952) (b0 : 0 ≤ b) (b1 : b < 2305843009213693952) :
    bits_Mul64.f a b = some (a * b / 18446744073709551616, a * b % 18446744073709551616) := by
  have hA : Go.bits .and .u64 a 4294967295 = a % 4294967296 := by
    have := and_mask a.toNat (by omega) 32 (by decide)
    rw [Int.toNat_of_nonneg a0] at this
    rw [show (4294967295 : Int) = ((2 ^ 32 - 1 : Nat) : Int) from by decide, this]
    omega
  have hB : Go.bits .and .u64 b 4294967295 = b % 4294967296 := by
    have := and_mask b.toNat (by omega) 32 (by decide)
    rw [Int.toNat_of_nonneg b0] at this
    rw [show (4294967295 : Int) = ((2 ^ 32 - 1 : Nat) : Int) from by decide, this]
    omega
  have ea : a = 4294967296 * (a / 4294967296) + a % 4294967296 := by omega
  have eb : b = 4294967296 * (b / 4294967296) + b % 4294967296 := by omega
  have x1 : 0 ≤ a / 4294967296 ∧ a / 4294967296 < 536870912 := by omega
  have y1 : 0 ≤ b / 4294967296 ∧ b / 4294967296 < 536870912 := by omega
  have x0 : 0 ≤ a % 4294967296 ∧ a % 4294967296 < 4294967296 := by omega
  have y0 : 0 ≤ b % 4294967296 ∧ b % 4294967296 < 4294967296 := by omega
  unfold bits_Mul64.f
  rw [hA, hB]
  have e : a * b = 18446744073709551616 * (a / 4294967296 * (b / 4294967296)) + 4294967296 * (a / 4294967296 * (b % 4294967296)) + 4294967296 * (a % 4294967296 * (b / 4294967296)) + a % 4294967296 * (b % 4294967296) := by
    generalize a / 4294967296 = u at *
    generalize a % 4294967296 = v at *
    generalize b / 4294967296 = s at *
    generalize b % 4294967296 = t at *
    subst ea eb
    grind
  have bd : ∀ {u v U V : Int}, 0 ≤ u ∧ u < U → 0 ≤ v ∧ v < V → 0 ≤ u * v ∧ u * v ≤ (U - 1) * (V - 1) := by
    intro u v U V hu hv
    exact ⟨Int.mul_nonneg hu.1 hv.1, Int.mul_le_mul (by omega) (by omega) hv.1 (by omega)⟩
  have b1 := bd x1 y1
  have b2 := bd x1 y0
  have b3 := bd x0 y1
  have b4 := bd x0 y0
  have hm : IntKind.u64.wrap (a * b) = a * b % 18446744073709551616 := wrapU _
  rw [hm]
  generalize a * b = E at *
  generalize a / 4294967296 * (b / 4294967296) = D at *
  generalize a / 4294967296 * (b % 4294967296) = B at *
  generalize a % 4294967296 * (b / 4294967296) = C at *
  generalize a % 4294967296 * (b % 4294967296) = A at *
  have m32 : ∀ x : Int, 0 ≤ x → x < 18446744073709551616 → Go.bits .and .u64 x 4294967295 = x % 4294967296 := by
    intro x h0 h1
    have := and_mask x.toNat (by omega) 32 (by decide)
    rw [Int.toNat_of_nonneg h0] at this
    rw [show (4294967295 : Int) = ((2 ^ 32 - 1 : Nat) : Int) from by decide, this]
    omega
  rw [wrapU_id (n := A) (by omega) (by omega), wrapU_id (n := B) (by omega) (by omega), wrapU_id (n := C) (by omega) (by omega), wrapU_id (n := D) (by omega) (by omega)]
  rw [wrapU_id (n := B + A / 4294967296) (by omega) (by omega), m32 _ (by omega) (by omega)]
  rw [wrapU_id (n := D + (B + A / 4294967296) / 4294967296) (by omega) (by omega), wrapU_id (n := (B + A / 4294967296) % 4294967296 + C) (by omega) (by omega), wrapU_id (by omega) (by omega)]
  congr 2
  omega
theorem mul_ev {p : Int} (h : Supp p) {a b : Int} (ha : Res p a) (hb : Res p b) : Ev (fun k => field_Mul.f k p a b) (a * b % p) := by
  have := h.bd
  obtain ⟨a0, a1⟩ := ha
  obtain ⟨b0, b1⟩ := hb
  have hn := Int.mul_nonneg a0 b0
  have hl : a * b ≤ 2305843009213693951 * 2305843009213693951 := Int.mul_le_mul (by omega) (by omega) b0 (by omega)
  have e := fold_ev h (a * b / 18446744073709551616) (a * b % 18446744073709551616) (by omega) (by omega) (by omega) (by omega)
  rw [Int.mul_comm (a * b / 18446744073709551616), Int.mul_ediv_add_emod] at e
  refine (Ev.bind (f := fun k t => some t) e (Ev.now _)).congr fun k => ?_
  show (bits_Mul64.f a b).bind _ = _
  rw [mul64_eq a0 (by omega) b0 (by omega)]
  rfl
theorem and_one (n : Int) (h0 : 0 ≤ n) (h1 : n < 18446744073709551616) : Go.bits .and .u64 n 1 = n % 2 := by
  have := and_mask n.toNat (by omega) 1 (by decide)
  rw [Int.toNat_of_nonneg h0] at this
  rw [show (1 : Int) = ((2 ^ 1 - 1 : Nat) : Int) from by decide, this]
  omega
theorem mulm {p a a' b b' : Int} (h : a % p = a' % p) (k : b % p = b' % p) : a * b % p = a' * b' % p := by rw [Int.mul_emod, h, k, ← Int.mul_emod]
theorem modm (p a : Int) : a % p % p = a % p := Int.emod_emod_of_dvd _ (Int.dvd_refl p)
theorem pow_two_half (a : Int) (n : Nat) : a ^ n = (a * a) ^ (n / 2) * a ^ (n % 2) := by
  have h : a * a = a ^ 2 := by rw [Int.pow_succ, Int.pow_succ, Int.pow_zero, Int.one_mul]
  rw [h, ← Int.pow_mul, ← Int.pow_add]; congr 1; omega
theorem pow_mod_base (a p : Int) : ∀ n : Nat, (a % p) ^ n % p = a ^ n % p
  | 0 => by rw [Int.pow_zero, Int.pow_zero]
  | n + 1 => by rw [Int.pow_succ, Int.pow_succ, Int.mul_emod, pow_mod_base a p n, Int.emod_emod_of_dvd _ (Int.dvd_refl p), ← Int.mul_emod]
theorem pow_l0 {p : Int} (h : Supp p) : ∀ (n : Nat) (a out : Int), n < 18446744073709551616 → Res p a → Res p out → Ev (fun k => field_Pow.l0 k p a n out) (out * a ^ n % p) := by
  intro n
  induction n using Nat.strongRecOn with
  | _ n ih =>
    intro a out hn ha ho
    by_cases h0 : n = 0
    · subst h0
      refine Ev.of (fun k => (field_Pow.mono_l k) _ _ _ _) (k := 1) ?_
      simp only [field_Pow.l0]
      rw [if_neg (by omega), Int.pow_zero, Int.mul_one, ho.eq]
    · have hsq := mul_ev h ha ha
      have hrec := fun out' ho' => ih (n / 2) (by omega) (a * a % p) out' (by omega) (Res.mod h _) ho'
      have eh := pow_two_half a n
      have e1 := pow_mod_base (a * a) p (n / 2)
      by_cases hodd : n % 2 = 1
      · refine Ev.step (f := fun k => (field_Mul.f k p out a).bind fun t244 => ((field_Mul.f k p a a).bind fun t245 => (field_Pow.l0 k p t245 ((n / 2 : Nat) : Int) t244))) (fun k => ?_) ?_
        · simp only [field_Pow.l0]
          rw [if_pos (by omega), if_pos (by rw [and_one _ (by omega) (by omega)]; omega)]
          rfl
        · refine Ev.bind (mul_ev h ho ha) (Ev.bind hsq ?_)
          have := hrec (out * a % p) (Res.mod h _)
          rw [show out * a ^ n % p = out * a % p * (a * a % p) ^ (n / 2) % p from ?_]
          · exact this
          · rw [mulm (Int.emod_emod_of_dvd (out * a) (Int.dvd_refl p)) e1, eh, hodd, Int.pow_one, Int.mul_assoc, Int.mul_comm a ((a * a) ^ (n / 2))]
      · refine Ev.step (f := fun k => (field_Mul.f k p a a).bind fun t246 => (field_Pow.l0 k p t246 ((n / 2 : Nat) : Int) out)) (fun k => ?_) ?_
        · simp only [field_Pow.l0]
          rw [if_pos (by omega), if_neg (by rw [and_one _ (by omega) (by omega)]; omega)]
          rfl
        · refine Ev.bind hsq ?_
          have := hrec out ho
          rw [show out * a ^ n % p = out * (a * a % p) ^ (n / 2) % p from ?_]
          · exact this
          · rw [mulm (a := out) rfl e1, eh, show n % 2 = 0 from by omega, Int.pow_zero, Int.mul_one]
/-- The inverse that the program computes. -/
def invp (p a : Int) : Int := a ^ (p - 2).toNat % p
theorem inv_ev {p : Int} (h : Supp p) {a : Int} (ha : Res p a) (h0 : a ≠ 0) : Ev (fun k => field_Inverse.f k p a) (invp p a, 0) := by
  have := h.bd
  have e := pow_l0 h (p - 2).toNat a 1 (by omega) ha ⟨by omega, by omega⟩
  rw [Int.one_mul, show ((p - 2).toNat : Int) = p - 2 from Int.toNat_of_nonneg (by omega)] at e
  refine (Ev.bind (f := fun k t => some (t, 0)) e (Ev.now _)).congr fun k => ?_
  show (if a = 0 then _ else (field_Pow.f k p a (IntKind.u64.wrap (p - 2))).bind _) = _
  rw [if_neg h0, wrapU_id (by omega) (by omega)]
  rfl
theorem inv_spec {p : Int} (h : Supp p) {a : Int} (ha : Res p a) (h0 : a ≠ 0) : a * invp p a % p = 1 := by
  have := h.bd
  obtain ⟨a0, a1⟩ := ha
  have e := h.good.fermat a.toNat (by omega) (by omega)
  unfold invp
  rw [mulm rfl (modm p _), Int.mul_comm, ← Int.pow_succ, show (p - 2).toNat.succ = p.toNat - 1 from by omega]
  have e2 : ((a.toNat ^ (p.toNat - 1) % p.toNat : Nat) : Int) = 1 := by rw [e]; rfl
  rw [Int.natCast_emod, Int.natCast_pow, Int.toNat_of_nonneg a0, Int.toNat_of_nonneg (by omega)] at e2
  exact e2
theorem inv_res {p : Int} (h : Supp p) (a : Int) : Res p (invp p a) := Res.mod h _
theorem over_ev {p : Int} (h : Supp p) {a b : Int} (ha : Res p a) (hb : Res p b) (h0 : b ≠ 0) : Ev (fun k => interpolate_over.f k p a b) (a * invp p b % p) := by
  refine (Ev.bind (f := fun k (t : Int × Int) => (field_Mul.f k p a t.1).bind fun t119 => some t119) (inv_ev h hb h0) (Ev.bind (f := fun k t => some t) (mul_ev h ha (inv_res h b)) (Ev.now _))).congr fun k => rfl
end Go.Proofs.Ytejeelpnmdfibaa.E
end
section
/-
  A region that draws its order, whose operations but the last few read, or call what only reads and draws; the last few in one forced order: walked in the order of the text. After the library's own two theorems (a still head with a tail; a quiet region).
-/
namespace Go.Proofs.Ytejeelpnmdfibaa.Hw
open Go
set_option linter.unusedVariables false
section
variable {P : Program} {ops : Array Oper} {md : Region.Mode} {C : World → Prop}

def wpAnyLQ (P : Program) (md : Region.Mode) (ops : Array Oper) (C : World → Prop) (n : Nat) (L : Array Bool → Act → Prop) : Nat → Array Bool → Act → Prop
  | 0, listed, a => L listed a
  | f + 1, listed, a =>
    Region.ready md ops listed ≠ [] ∧ ∀ i ∈ Region.ready md ops listed, i < n ∧ qOp P ops C i (wpAnyLQ P md ops C n L f (listed.setIfInBounds i true)) a
theorem wpAny_of_headQ {n g : Nat} {L : Array Bool → Act → Prop} {Q' : Exit → Act → World → Prop} (hL : ∀ listed a w, C w → L listed a → wpAny P md ops Q' g listed a w) :
    ∀ (f : Nat) (listed : Array Bool) (a : Act) (w : World), C w → wpAnyLQ P md ops C n L f listed a → wpAny P md ops Q' (f + g) listed a w
  | 0, listed, a, w, hw, h => by rw [Nat.zero_add]; exact hL _ _ _ hw h
  | f + 1, listed, a, w, hw, h => by
    rw [show f + 1 + g = (f + g) + 1 by omega]
    exact ⟨fun h0 => absurd h0 h.1, fun i hi => wpOp_of_qOp hw (fun a' w' hw' h' => wpAny_of_headQ hL f _ a' w' hw' h') (h.2 i hi).2⟩
theorem wpAnyLQ_first {n i : Nat} {oi : Oper} {v : Value} {L : Array Bool → Act → Prop} (hi : ops[i]? = some oi) (hsel : ∀ (j : Nat) (o : Oper) cs b, ops[j]? = some o → o.op ≠ .select cs b)
    (hs : Region.sinkB md ops n = true) (hc : Region.chainB md ops n = true) (hn : n < ops.size) (hin : i < n)
    (hdone : ∀ listed a, L listed a → ∀ j ∈ Region.ready md ops listed, n ≤ j) :
    ∀ (f : Nat) (listed : Array Bool) (a : Act), HeadInv md ops n listed →
      (∀ j oj, ops[j]? = some oj → j ≠ i → listed.getD j true = false → (∀ e ∈ oj.after, Region.binds md e = true → e.on ≠ i) → oi.apart ops oj = true) →
      i ∈ Region.ready md ops listed → YieldsIn P ops C oi v a →
      wpAnyLQ P md ops C n L f (listed.setIfInBounds i true) (a.put oi.dst v) → wpAnyLQ P md ops C n L (f + 1) listed a := by
  intro f
  induction f with
  | zero =>
    intro listed a inv _ hr hy H
    have hun := (mem_ready.1 hr).1
    refine ⟨fun h => (by rw [h] at hr; cases hr), fun j hj => ?_⟩
    have hjn : j < n := by
      rcases Nat.lt_or_ge j n with h | h
      · exact h
      · exact absurd hj (tail_waits hs hc hn inv _ i rfl hin hun j h)
    refine ⟨hjn, ?_⟩
    by_cases hji : j = i
    · subst hji; exact hy.qOp hi H
    · have := hdone _ _ H j (ready_mono hj hji)
      omega
  | succ f ih =>
    intro listed a inv hfree hr hy H
    have hun := (mem_ready.1 hr).1
    refine ⟨fun h => (by rw [h] at hr; cases hr), fun j hj => ?_⟩
    have hjn : j < n := by
      rcases Nat.lt_or_ge j n with h | h
      · exact h
      · exact absurd hj (tail_waits hs hc hn inv _ i rfl hin hun j h)
    refine ⟨hjn, ?_⟩
    by_cases hji : j = i
    · subst hji; exact hy.qOp hi H
    · have h1 := (H.2 j (ready_mono hj hji)).2
      obtain ⟨hjun, oj, hoj, hall⟩ := mem_ready.1 hj
      have hnot : ∀ e ∈ oj.after, Region.binds md e = true → e.on ≠ i := fun e he hb heq => by
        have h1 := hall e he hb
        rw [heq, getD_both hun] at h1
        cases h1
      have h2 := qOp_put hoj (hfree j oj hoj hji hjun hnot) (fun cs b => hsel i oi cs b hi) (fun cs b => hsel j oj cs b hoj) hy h1
      have hfree' : ∀ k ok, ops[k]? = some ok → k ≠ i → (listed.setIfInBounds j true).getD k true = false →
          (∀ e ∈ ok.after, Region.binds md e = true → e.on ≠ i) → oi.apart ops ok = true := fun k ok hk hki hun hno => by
        refine hfree k ok hk hki ?_ hno
        by_cases hjk : j = k
        · subst hjk; exact hjun
        · rw [getD_set_ne true hjk] at hun; exact hun
      refine qOp_mono (fun a' h3 => ih (listed.setIfInBounds j true) a' (inv.set hj hjn) hfree' (ready_mono hr (Ne.symm hji)) h3.1 ?_) h2
      rw [Array.setIfInBounds_comm _ _ hji]
      exact h3.2
theorem wpAnyLQ_lex {n g : Nat} {Lq : Act → Prop} (hsel : Region.noSelect ops = true) (hs : Region.sinkB md ops n = true) (hc : Region.chainB md ops n = true) (hn : n < ops.size) :
    ∀ (l : List Oper) (k : Nat) (listed : Array Bool) (a : Act), (∀ j, j < l.length → l[j]? = ops[k + j]?) → k + l.length = n → HeadInv md ops n listed →
    Region.lexHead md ops g l.length k listed = true → wpQuiet P ops C Lq l a →
    wpAnyLQ P md ops C n (fun listed' a' => Region.seqB md ops g n listed' = true ∧ Lq a') l.length listed a
  | [], k, listed, a, _, hk, _, hB, h => by
    have : k = n := by simpa using hk
    subst this
    exact ⟨by simpa [Region.lexHead] using hB, h⟩
  | o :: l, k, listed, a, hl, hk, inv, hB, h => by
    have h0 : ops[k]? = some o := by simpa using (hl 0 (by simp)).symm
    simp only [List.length_cons, Region.lexHead, Bool.and_eq_true] at hB
    obtain ⟨⟨hr, hf⟩, hB'⟩ := hB
    have hkn : k < n := by simp only [List.length_cons] at hk; omega
    have hr' : k ∈ Region.ready md ops listed := by simpa using hr
    have hst : qOp P ops C k (wpQuiet P ops C Lq l) a := by unfold qOp; simp only [h0]; exact h
    obtain ⟨v, hy, hK⟩ := yieldsIn_of_qOp h0 hst
    exact wpAnyLQ_first h0 (Region.noSelect_spec hsel) hs hc hn hkn (fun listed' a' hL => seqB_ready hL.1) l.length listed a inv (Region.free_spec h0 hf) hr' hy
      (wpAnyLQ_lex hsel hs hc hn l (k + 1) _ _ (fun j hj => by have := hl (j + 1) (by simp; omega); simpa [Nat.add_assoc, Nat.add_comm 1 j] using this) (by simp only [List.length_cons] at hk; omega) (inv.set hr' hkn) hB' hK)
/-- The head only reads (and draws), in each world of the class; the tail is forced. -/
theorem wp_region_quiet_tail {id : Nat} {Q : Exit → Act → World → Prop} {a : Act} {w : World} {l : List Oper} (n : Nat) (hm : P.follows .mixedOrders = true) (hB : Region.lexTailB .any l.toArray n = true)
    (hC : C { w with drawn := w.drawn + 1 })
    (h : wpQuiet P l.toArray C (fun a' => ∀ w', C w' → wpList P l.toArray Q (l.drop n) a' w') (l.take n) a) : (Code.region id l.toArray true).wp P Q a w := by
  simp only [Region.lexTailB, Bool.and_eq_true, decide_eq_true_eq] at hB
  obtain ⟨⟨⟨⟨hsel, hn⟩, hs⟩, hc⟩, hlex⟩ := hB
  have hn' : n < l.length := by simpa using hn
  have htl : (l.take n).length = n := by simp; omega
  have hdl : (l.drop n).length = l.toArray.size - n := by simp
  have inv0 : HeadInv .any l.toArray n (Array.replicate l.toArray.size false) :=
    ⟨by simp, fun j oj _ hl => (by rw [getD_replicate_false] at hl; cases hl), fun t _ ht => getD_in (by simpa using ht) (getD_replicate_false _ _)⟩
  have H := wpAnyLQ_lex (md := .any) (g := l.toArray.size - n) hsel hs hc hn (l.take n) 0 _ a (fun j hj => by
    have hj' : j < n := by rw [htl] at hj; exact hj
    simp [hj']) (by simpa using htl) inv0 (by rw [htl]; exact hlex) h
  refine wp_region_any hm ?_
  have := wpAny_of_headQ (Q' := Q) (g := l.toArray.size - n) (fun listed a' w' hw' hL => by
    have := wpAny_of_seq (md := .any) (Q' := Q) (l.drop n) n listed a' w' (fun j => by simp [List.getElem?_drop]) (by rw [hdl]; exact hL.1) (hL.2 w' hw')
    rwa [hdl] at this) _ _ _ _ hC H
  rw [htl, show n + (l.toArray.size - n) = l.toArray.size by omega] at this
  exact this
/-- The class of the printed quiet regions: the world, drawn on. -/
theorem wp_region_quiet_tail_drawn {id : Nat} {Q : Exit → Act → World → Prop} {a : Act} {w : World} {l : List Oper} (n : Nat) (hm : P.follows .mixedOrders = true) (hB : Region.lexTailB .any l.toArray n = true)
    (h : wpQuiet P l.toArray (fun w' => ∃ m, w' = w.drewN m) (fun a' => ∀ w', (∃ m, w' = w.drewN m) → wpList P l.toArray Q (l.drop n) a' w') (l.take n) a) : (Code.region id l.toArray true).wp P Q a w :=
  wp_region_quiet_tail n hm hB ⟨1, rfl⟩ h
end
end Go.Proofs.Ytejeelpnmdfibaa.Hw
end
section
/-
  (*sum).put, Add and Mul of package poly, proved by hand: what they compute, in plain lists.
-/
namespace Go.Proofs.Ytejeelpnmdfibaa.Hw
open Go.RowKit Go.Proofs.Ytejeelpnmdfibaa.Pr Go.Proofs.YtejeelpnmdfibaaW.PrintWords Go.Proofs.YtejeelpnmdfibaaW.PrintLast Go.Proofs.YtejeelpnmdfibaaW.PrintMore Go.Proofs.Ytejeelpnmdfibaa.E
set_option linter.unusedVariables false
set_option linter.unusedSimpArgs false

/-- What put leaves: the list, made long enough, with k added at i. -/
def grow (l : List Int) (n : Nat) : List Int := l ++ List.replicate (n - l.length) 0
def putL (p : Int) (l : List Int) (i : Nat) (k : Int) : List Int := (grow l (i + 1)).set i (((grow l (i + 1)).getD i 0 + k) % p)
/-- The state behind the pointer. -/
structure SumAt (w : World) (base g : Nat) (p : Int) (v : Value) (l : List Int) : Prop where
  blk : w.heap[g]? = some (.cells #[.int .u64 p, v] 87 (0, 0))
  own : Kd.R (Kd.int .u64) 22 w base (fun _ => True) v l
  ge : base ≤ g
set_option maxHeartbeats 1000000 in
theorem put_calls {p : Int} (hp : Supp p) {l : List Int} (hl : ∀ x ∈ l, Res p x) (i : Nat) (hi : i < 1099511627776) (hll : l.length ≤ 1099511627776) {k : Int} (hk : Res p k) (w0 w : World) (hB : Below w0.heap.size w0 w) (g : Nat) (v : Value) (h : SumAt w w0.heap.size g p v l) :
    Calls Try.prog 82 #[.pointer (some ⟨g, 0, none⟩), .int .i64 (i : Int), .int .u64 k] w fun e w' => e = .returned (.tuple #[]) ∧ Aside0 (∃ v', SumAt w' w0.heap.size g p v' (putL p l i k)) ∧ Below w0.heap.size w0 w' := by
  have HS := Aside0.mk h
  have HBx := Aside0.mk hB
  clear h hB
  go_enter Try.func82, Try.ntmps82
  go_wp2
  go_loopg [12] (i + 1 - l.length) (fun kq v12 w' => ∃ (m : List Int) (v' : Value), Aside0 (SumAt w' w0.heap.size g p v' m) ∧ Aside0 (Below w0.heap.size w0 w') ∧ Aside0 (∃ j, m = l ++ List.replicate j 0 ∧ kq + j = i + 1 - l.length))
  case atStart => exact ⟨l, v, HS, HBx, ⟨0, by simp, rfl⟩⟩
  case round =>
    obtain ⟨m, v', HS', HB', ⟨j, HM⟩⟩ := hrel
    replace HM := Aside0.mk HM
    clear HS HBx
    obtain ⟨A, c, rfl⟩ := Kd.R_slice HS'.out.own
    have c0 := blk_cell HS'.out.blk 0
    have c1 := blk_cell HS'.out.blk 1
    have f1 := blk_frozen HS'.out.blk 1
    simp only [List.getElem?_toArray, List.getElem?_cons_zero, List.getElem?_cons_succ] at c0 c1
    by_cases hle : m.length ≤ i
    · have hd : decide (m.length ≤ i) = true := decide_eq_true hle
      obtain ⟨m1, hm1⟩ : ∃ y : List Int, y = m ++ [0] := ⟨_, rfl⟩
      have NM := Aside0.mk hm1
      clear hm1
      go_wp2_with (first | ((with_reducible refine gate_builtin (b := .append) (xs := #[.tmp 17, .tmp 18]) rfl ?_); at_builtin; refine Kd.R_append (Kd.int .u64) (w0 := w0) w0.heap.size rfl (.tmp 17) (.tmp 18) 26 22 (.int .u64 0) 8 rfl Try.underlying26 info22 rfl (by decide) (by omega) (.slice A m.length c) m 0 [.int .u64 0] (fun _ => True) (fun _ => False) rfl rfl rfl (fun _ hk => hk.elim) (fun _ _ => trivial) HS'.out.own HB'.out (below_size HB'.out) (by omega) ?_; intro v1 w1 ho hb hg hat; rw [← NM.out] at ho; obtain ⟨A1, q1, rfl⟩ := Kd.R_slice ho; have hblk1 := Aside0.mk (blk_grown HS'.out.blk hg (Kd.R_ne HS'.out.own HS'.out.blk (by decide))); have c1' := blk_cell hblk1.out 1; have f1' := blk_frozen hblk1.out 1; simp only [List.getElem?_toArray, List.getElem?_cons_zero, List.getElem?_cons_succ] at c1'; have HO1 := Aside0.mk ho; have HB1 := Aside0.mk hb; clear ho hb hg hat))
      go_roundg (i + 1 - l.length - (j + 1))
      case measure => have := HM.out; have : m.length = l.length + j := (by rw [HM.out.1]; simp); omega
      case rel =>
        have hml : m.length = l.length + j := by rw [HM.out.1]; simp
        have hk := HM.out.2
        refine ⟨m1, .slice A1 m1.length q1, ⟨⟨?_, ?_, HS'.out.ge⟩⟩, ⟨?_⟩, ⟨j + 1, ?_, by omega⟩⟩
        · exact blk_put hblk1.out 1 _ rfl
        · exact Kd.R_set HO1.out hblk1.out (by decide) 1 _
        · exact HB1.out.setCell HS'.out.ge _
        · rw [NM.out, HM.out.1, List.replicate_succ', List.append_assoc]
    · have hd : decide (m.length ≤ i) = false := decide_eq_false hle
      go_wp2
      have hml : m.length = l.length + j := by rw [HM.out.1]; simp
      have hkj := HM.out.2
      obtain ⟨b, q, hv, hb0, how⟩ := R_open HS'.out.own (by omega)
      cases hv
      have ⟨ci, fi⟩ := own_at how (i : Int) (by omega) (by omega)
      rw [Int.toNat_natCast] at ci fi
      have p1 : ((0 : Int) ≤ (i : Int)) = True := eq_true (by omega)
      have p2 : ((i : Int) < (m.length : Int)) = True := eq_true (by omega)
      have hmr : ∀ x ∈ m, Res p x := by
        intro x hx
        rw [HM.out.1] at hx
        rcases List.mem_append.1 hx with h | h
        · exact hl x h
        · rw [(List.mem_replicate.1 h).2]; have := hp.bd; exact ⟨by omega, by omega⟩
      have hri : Res p (rd m i) := by
        have e : rd m i = m[i]'(by omega) := by unfold rd; rw [Int.toNat_natCast, List.getD_eq_getElem?_getD, List.getElem?_eq_getElem (by omega)]; rfl
        rw [e]; exact hmr _ (List.getElem_mem _)
      obtain ⟨kk, hkk⟩ := (add_ev hp hri hk).rounds
      have hgm : m = grow l (i + 1) := by rw [HM.out.1]; unfold grow; rw [show i + 1 - l.length = j from by omega]
      have HG := Aside0.mk hgm
      have HKK := Aside0.mk hkk
      have HOW := Aside0.mk how
      clear hml hkj hmr hgm hkk how
      refine wp_region_quiet_tail_drawn 19 (by kernel_rfl) (by kernel_rfl) ?_
      simp only [List.take_succ_cons, List.take_zero, List.drop_succ_cons, List.drop_zero]
      repeat (quiet_step ((refine Calls.quiet_of ((field_Add.calls kk _ _ _ ((rd m i + k) % p) _ HKK.out).mono fun e w' h => ⟨h.1, h.2.out⟩))))
      refine wpQuiet_nil ?_
      rintro _ ⟨nq, rfl⟩
      go_wp2
      go_end0
      have hne : g ≠ b := fun e => Kd.R_ne HS'.out.own HS'.out.blk (by decide) (by rw [e]; rfl)
      have hset := own_put (pw_own_drewN HOW.out nq) (i : Int) ((rd m i + k) % p)
      rw [Int.toNat_natCast] at hset
      refine ⟨rfl, ⟨.slice (some ⟨b, 0, none⟩) m.length c, ?_, ?_, HS'.out.ge⟩, (pw_below_drewN HB'.out nq).setCell hb0 _⟩
      · exact blk_far (blk_drewN HS'.out.blk nq) hne _
      · unfold putL
        rw [← HG.out]
        have hl : (m.set i ((m.getD i 0 + k) % p)).length = m.length := by simp
        rw [show m.getD i 0 = rd m i from rfl] at hl ⊢
        refine R_made ?_ (fun _ _ => trivial)
        exact hset
theorem putL_length (p : Int) (l : List Int) (i : Nat) (k : Int) : (putL p l i k).length = max l.length (i + 1) := by unfold putL grow; simp; omega
theorem grow_res {p : Int} (hp : Supp p) {l : List Int} (hl : ∀ x ∈ l, Res p x) (n : Nat) : ∀ x ∈ grow l n, Res p x := by
  intro x hx
  have := hp.bd
  rcases List.mem_append.1 hx with h | h
  · exact hl x h
  · rw [(List.mem_replicate.1 h).2]; exact ⟨by omega, by omega⟩
theorem putL_res {p : Int} (hp : Supp p) {l : List Int} (hl : ∀ x ∈ l, Res p x) (i : Nat) (k : Int) : ∀ x ∈ putL p l i k, Res p x := by
  intro x hx
  rcases List.mem_or_eq_of_mem_set hx with h | h
  · exact grow_res hp hl _ x h
  · rw [h]; exact Res.mod hp _
/-- The first n words of l, put one by one. -/
def putsL (p : Int) (m l : List Int) : Nat → List Int
  | 0 => m
  | n + 1 => putL p (putsL p m l n) n (l.getD n 0)
theorem putsL_res {p : Int} (hp : Supp p) {m l : List Int} (hm : ∀ x ∈ m, Res p x) : ∀ n, ∀ x ∈ putsL p m l n, Res p x
  | 0 => hm
  | n + 1 => putL_res hp (putsL_res hp hm n) _ _
theorem putsL_length (p : Int) (m l : List Int) : ∀ n, (putsL p m l n).length = max m.length n
  | 0 => by simp [putsL]
  | n + 1 => by rw [putsL, putL_length, putsL_length p m l n]; omega
theorem rd_res {p : Int} {l : List Int} (hl : ∀ x ∈ l, Res p x) (i : Nat) (hi : i < l.length) : Res p (rd l i) := by
  have e : rd l i = l[i] := by unfold rd; rw [Int.toNat_natCast, List.getD_eq_getElem?_getD, List.getElem?_eq_getElem hi]; rfl
  rw [e]; exact hl _ (List.getElem_mem _)
set_option maxHeartbeats 1000000 in
theorem poly_Add.walks (p : Int) (hp : Supp p) (A1 : Option Addr) (c1 : Nat) (l1 : List Int) (A2 : Option Addr) (c2 : Nat) (l2 : List Int) (h1 : ∀ x ∈ l1, Res p x) (h2 : ∀ x ∈ l2, Res p x) (b1 : l1.length ≤ 1099511627776) (b2 : l2.length ≤ 1099511627776) (w : World)
    (hr1 : Kd.C (Kd.int .u64) w A1 l1.length l1) (hc1 : l1.length ≤ c1) (hr2 : Kd.C (Kd.int .u64) w A2 l2.length l2) (hc2 : l2.length ≤ c2) (r : List Int) (k : Nat) (ht : poly_Trim.f k (putsL p (putsL p [] l1 l1.length) l2 l2.length) = some r) :
    Calls Try.prog 80 #[.int .u64 p, .slice A1 l1.length c1, .slice A2 l2.length c2] w fun e w' => ∃ v0_ : Value, e = .returned (v0_) ∧ Kd.R (Kd.int .u64) 22 w' w.heap.size (fun _ => True) v0_ r ∧ Below w.heap.size w w' := by
  have HR1 := Aside0.mk hr1
  have HR2 := Aside0.mk hr2
  have HT := Aside0.mk ht
  have H1 := Aside0.mk h1
  have H2 := Aside0.mk h2
  have HL1 := Aside0.mk (fun n (hn : n ≤ l1.length) => (show (putsL p [] l1 n).length ≤ 1099511627776 from by rw [putsL_length]; simp; omega))
  have HL2 := Aside0.mk (fun n (hn : n ≤ l2.length) => (show (putsL p (putsL p [] l1 l1.length) l2 n).length ≤ 1099511627776 from by rw [putsL_length, putsL_length]; simp; omega))
  clear hr1 hr2 ht h1 h2
  have hS0 : Aside0 (SumAt (w.alloc (Obj.cells #[Value.int IntKind.u64 p, Value.slice none 0 0] 87)) w.heap.size w.heap.size p (.slice none 0 0) []) := ⟨⟨blk_new _ _, Kd.R_nil _ _ _ _ _, Nat.le_refl _⟩⟩
  go_enter Try.func80, Try.ntmps80
  go_wp2
  go_loopg [20] l1.length (fun kq v20 w' => ∃ (n : Nat) (v' : Value), v20 = .int .i64 n ∧ Aside0 (kq + n = l1.length) ∧ Aside0 (SumAt w' w.heap.size w.heap.size p v' (putsL p [] l1 n)) ∧ Aside0 (Below w.heap.size w w'))
  case atStart => exact ⟨0, _, rfl, ⟨rfl⟩, hS0, ⟨below_alloc (Below.refl _ _) _⟩⟩
  case round =>
    obtain ⟨n, v', rfl, HK, HS, HB⟩ := hrel
    clear hS0
    by_cases hlt : n < l1.length
    · have p1 : ((0 : Int) ≤ (n : Int)) = True := eq_true (by omega)
      have q1 : ((n : Int) < (l1.length : Int)) = True := eq_true (by omega)
      obtain ⟨ad, e1, hx⟩ := Kd.at_int HR1.out (n : Int) (by omega) (by omega)
      cases e1
      replace hx := pw_cell_below HB.out hx
      rw [Int.toNat_natCast] at hx
      have hput := Aside0.mk (put_calls hp (putsL_res hp (fun x hx => by cases hx) n) n (by omega) (HL1.out n (by omega)) (rd_res H1.out n hlt) w wr HB.out w.heap.size v' HS.out)
      go_wp2_with (first | (go_at_call 82; (with_reducible refine hput.out.mono ?_); rintro e w' ⟨rfl, HP, HB2⟩))
      go_roundg (l1.length - (n + 1))
      case measure => have := HK.out; omega
      case rel =>
        obtain ⟨v2, HS2⟩ := HP.out
        exact ⟨n + 1, v2, by go_num, ⟨by omega⟩, ⟨HS2⟩, ⟨HB2⟩⟩
    · have hd : decide ((n : Int) < (l1.length : Int)) = false := decide_eq_false (by omega)
      have hn : n = l1.length := by have := HK.out; omega
      subst hn
      clear HK hlt hd
      go_wp2
      go_loopg [32] l2.length (fun kq v32 w' => ∃ (n : Nat) (v' : Value), v32 = .int .i64 n ∧ Aside0 (kq + n = l2.length) ∧ Aside0 (SumAt w' w.heap.size w.heap.size p v' (putsL p (putsL p [] l1 l1.length) l2 n)) ∧ Aside0 (Below w.heap.size w w'))
      case atStart => exact ⟨0, _, rfl, ⟨rfl⟩, HS, HB⟩
      case round =>
        clear HS HB
        obtain ⟨n, v', rfl, HK, HS, HB⟩ := hrel
        by_cases hlt : n < l2.length
        · have p1 : ((0 : Int) ≤ (n : Int)) = True := eq_true (by omega)
          have q1 : ((n : Int) < (l2.length : Int)) = True := eq_true (by omega)
          obtain ⟨ad, e1, hx⟩ := Kd.at_int HR2.out (n : Int) (by omega) (by omega)
          cases e1
          replace hx := pw_cell_below HB.out hx
          rw [Int.toNat_natCast] at hx
          have hput := Aside0.mk (put_calls hp (putsL_res hp (putsL_res hp (fun x hx => by cases hx) l1.length) n) n (by omega) (HL2.out n (by omega)) (rd_res H2.out n hlt) w wr HB.out w.heap.size v' HS.out)
          go_wp2_with (first | (go_at_call 82; (with_reducible refine hput.out.mono ?_); rintro e w' ⟨rfl, HP, HB2⟩))
          go_roundg (l2.length - (n + 1))
          case measure => have := HK.out; omega
          case rel =>
            obtain ⟨v2, HS2⟩ := HP.out
            exact ⟨n + 1, v2, by go_num, ⟨by omega⟩, ⟨HS2⟩, ⟨HB2⟩⟩
        · have hd : decide ((n : Int) < (l2.length : Int)) = false := decide_eq_false (by omega)
          have hn : n = l2.length := by have := HK.out; omega
          subst hn
          clear HK hlt hd
          obtain ⟨A, c, rfl, hcc, hC⟩ := Kd.R_reads HS.out.own
          have c1 := blk_cell HS.out.blk 1
          simp only [List.getElem?_toArray, List.getElem?_cons_zero, List.getElem?_cons_succ] at c1
          have htc := Aside0.mk (poly_Trim.calls k A c _ r wr hC hcc HT.out)
          clear hC
          go_wp2_with (first | (go_at_call 83; (with_reducible refine htc.out.mono ?_); rintro e w' ⟨v0, rfl, hv0, hb0⟩; have HV0 := Aside0.mk hv0; have HB0 := Aside0.mk hb0; clear hv0 hb0))
          go_ret
          exact ⟨v0, rfl, Kd.R_lower HV0.out (below_size HB.out), below_step HB.out HB0.out⟩
end Go.Proofs.Ytejeelpnmdfibaa.Hw
end
section
/-
  Mul of package poly, proved by hand: what it computes, in plain lists.
-/
namespace Go.Proofs.Ytejeelpnmdfibaa.Hw
open Go.RowKit Go.Proofs.Ytejeelpnmdfibaa.Pr Go.Proofs.YtejeelpnmdfibaaW.PrintWords Go.Proofs.YtejeelpnmdfibaaW.PrintLast Go.Proofs.YtejeelpnmdfibaaW.PrintMore Go.Proofs.Ytejeelpnmdfibaa.E
set_option linter.unusedVariables false
set_option linter.unusedSimpArgs false

def rowL (p : Int) (m : List Int) (u : Int) (b : List Int) (i : Nat) : Nat → List Int
  | 0 => m
  | n + 1 => putL p (rowL p m u b i n) (i + n) (u * rd b n % p)
def mulsL (p : Int) (a b : List Int) : Nat → List Int
  | 0 => []
  | i + 1 => rowL p (mulsL p a b i) (rd a i) b i b.length
theorem rowL_res {p : Int} (hp : Supp p) {m : List Int} (hm : ∀ x ∈ m, Res p x) (u : Int) (b : List Int) (i : Nat) : ∀ n, ∀ x ∈ rowL p m u b i n, Res p x
  | 0 => hm
  | n + 1 => putL_res hp (rowL_res hp hm u b i n) _ _
theorem rowL_length (p : Int) (m : List Int) (u : Int) (b : List Int) (i : Nat) : ∀ n, (rowL p m u b i n).length ≤ max m.length (i + n)
  | 0 => by simp [rowL]; omega
  | n + 1 => by have := rowL_length p m u b i n; rw [rowL, putL_length]; omega
theorem mulsL_res {p : Int} (hp : Supp p) (a b : List Int) : ∀ n, ∀ x ∈ mulsL p a b n, Res p x
  | 0 => fun x hx => by cases hx
  | n + 1 => rowL_res hp (mulsL_res hp a b n) _ _ _ _
theorem mulsL_length (p : Int) (a b : List Int) : ∀ n, (mulsL p a b n).length ≤ n + b.length
  | 0 => by simp [mulsL]
  | n + 1 => by have := mulsL_length p a b n; have h := rowL_length p (mulsL p a b n) (rd a n) b n b.length; rw [mulsL]; omega
set_option maxHeartbeats 2000000 in
set_option maxRecDepth 100000 in
theorem poly_Mul.walks (p : Int) (hp : Supp p) (A1 : Option Addr) (c1 : Nat) (l1 : List Int) (A2 : Option Addr) (c2 : Nat) (l2 : List Int) (h1 : ∀ x ∈ l1, Res p x) (h2 : ∀ x ∈ l2, Res p x) (b1 : l1.length ≤ 274877906944) (b2 : l2.length ≤ 274877906944) (w : World)
    (hr1 : Kd.C (Kd.int .u64) w A1 l1.length l1) (hc1 : l1.length ≤ c1) (hr2 : Kd.C (Kd.int .u64) w A2 l2.length l2) (hc2 : l2.length ≤ c2) (r : List Int) (k : Nat) (ht : poly_Trim.f k (mulsL p l1 l2 l1.length) = some r) :
    Calls Try.prog 52 #[.int .u64 p, .slice A1 l1.length c1, .slice A2 l2.length c2] w fun e w' => ∃ v0_ : Value, e = .returned (v0_) ∧ Kd.R (Kd.int .u64) 22 w' w.heap.size (fun _ => True) v0_ r ∧ Below w.heap.size w w' := by
  have HR1 := Aside0.mk hr1
  have HR2 := Aside0.mk hr2
  have HT := Aside0.mk ht
  have H1 := Aside0.mk h1
  have H2 := Aside0.mk h2
  have HL := Aside0.mk (fun i n (hi : i < l1.length) (hn : n ≤ l2.length) => (show (rowL p (mulsL p l1 l2 i) (rd l1 i) l2 i n).length ≤ 1099511627776 from by have := mulsL_length p l1 l2 i; have := rowL_length p (mulsL p l1 l2 i) (rd l1 i) l2 i n; omega))
  clear hr1 hr2 ht h1 h2
  have hS0 : Aside0 (SumAt (w.alloc (Obj.cells #[Value.int IntKind.u64 p, Value.slice none 0 0] 87)) w.heap.size w.heap.size p (.slice none 0 0) []) := ⟨⟨blk_new _ _, Kd.R_nil _ _ _ _ _, Nat.le_refl _⟩⟩
  go_enter Try.func52, Try.ntmps52
  go_wp2
  go_loopg [20] l1.length (fun kq v20 w' => ∃ (n : Nat) (v' : Value), v20 = .int .i64 (n : Int) ∧ Aside0 (kq + n = l1.length) ∧ Aside0 (SumAt w' w.heap.size w.heap.size p v' (mulsL p l1 l2 n)) ∧ Aside0 (Below w.heap.size w w'))
  case atStart => exact ⟨0, _, rfl, ⟨rfl⟩, hS0, ⟨below_alloc (Below.refl _ _) _⟩⟩
  case round =>
    obtain ⟨i, v', rfl, HK, HS, HB⟩ := hrel
    clear hS0
    by_cases hlt : i < l1.length
    · have p1 : ((0 : Int) ≤ (i : Int)) = True := eq_true (by omega)
      have q1 : ((i : Int) < (l1.length : Int)) = True := eq_true (by omega)
      obtain ⟨ad, e1, hx⟩ := Kd.at_int HR1.out (i : Int) (by omega) (by omega)
      cases e1
      replace hx := pw_cell_below HB.out hx
      rw [Int.toNat_natCast] at hx
      go_wp2
      clear hx
      go_loopg [27] l2.length (fun kq v27 w' => ∃ (n : Nat) (v2 : Value), v27 = .int .i64 (n : Int) ∧ Aside0 (kq + n = l2.length) ∧ Aside0 (SumAt w' w.heap.size w.heap.size p v2 (rowL p (mulsL p l1 l2 i) (rd l1 i) l2 i n)) ∧ Aside0 (Below w.heap.size w w'))
      case atStart => exact ⟨0, v', rfl, ⟨rfl⟩, HS, HB⟩
      case round =>
        clear HS HB
        obtain ⟨n, v2, rfl, HK2, HS, HB⟩ := hrel
        by_cases hlt2 : n < l2.length
        · have p2 : ((0 : Int) ≤ (n : Int)) = True := eq_true (by omega)
          have q2 : ((n : Int) < (l2.length : Int)) = True := eq_true (by omega)
          obtain ⟨ad2, e2, hx⟩ := Kd.at_int HR2.out (n : Int) (by omega) (by omega)
          cases e2
          replace hx := pw_cell_below HB.out hx
          rw [Int.toNat_natCast] at hx
          obtain ⟨km, hkm⟩ := (mul_ev hp (rd_res H1.out i hlt) (rd_res H2.out n hlt2)).rounds
          have HKM := Aside0.mk hkm
          have hput := fun nd => put_calls hp (rowL_res hp (mulsL_res hp l1 l2 i) (rd l1 i) l2 i n) (i + n) (by omega) (HL.out i n hlt (by omega)) (Res.mod hp (rd l1 i * rd l2 n)) w (wr.drewN nd) (pw_below_drewN HB.out nd) w.heap.size v2 ⟨blk_drewN HS.out.blk nd, Kd.R_drewN HS.out.own nd, HS.out.ge⟩
          have HPUT := Aside0.mk hput
          clear hkm hput
          obtain ⟨u, hu⟩ : ∃ u, u = rd l1 i * rd l2 n % p := ⟨_, rfl⟩
          rw [← hu] at HKM HPUT
          have HU := Aside0.mk hu
          clear hu
          have hin : ((i : Int) + (n : Int)) = ((i + n : Nat) : Int) := by omega
          have HIN := Aside0.mk hin
          clear hin
          go_wp2_with (first
            | (go_at_call 70; (with_reducible refine (field_Mul.calls km p (rd l1 i) (rd l2 n) u _ HKM.out).mono ?_); rintro e w5 ⟨rfl, ⟨nd, rfl⟩⟩)
            | (go_at_call 82; rw [HIN.out]; (with_reducible refine (HPUT.out nd).mono ?_); rintro e w' ⟨rfl, HP, HB2⟩))
          go_roundg (l2.length - (n + 1))
          case measure => have := HK2.out; omega
          case rel =>
            obtain ⟨v3, HS2⟩ := HP.out
            refine ⟨n + 1, v3, by go_num, ⟨by omega⟩, ⟨?_⟩, ⟨HB2⟩⟩
            rw [rowL, ← HU.out]; exact HS2
        · have hd : decide ((n : Int) < (l2.length : Int)) = false := decide_eq_false (by omega)
          have hn : n = l2.length := by have := HK2.out; omega
          subst hn
          clear hlt2 hd
          go_wp2
          go_roundg (l1.length - (i + 1))
          case measure => have := HK.out; omega
          case rel => exact ⟨i + 1, v2, by go_num, ⟨by omega⟩, HS, HB⟩
    · have hd : decide ((i : Int) < (l1.length : Int)) = false := decide_eq_false (by omega)
      have hn : i = l1.length := by have := HK.out; omega
      subst hn
      clear HK hlt hd
      obtain ⟨A, c, rfl, hcc, hC⟩ := Kd.R_reads HS.out.own
      have c1 := blk_cell HS.out.blk 1
      simp only [List.getElem?_toArray, List.getElem?_cons_zero, List.getElem?_cons_succ] at c1
      have htc := Aside0.mk (poly_Trim.calls k A c _ r wr hC hcc HT.out)
      clear hC
      go_wp2_with (first | (go_at_call 83; (with_reducible refine htc.out.mono ?_); rintro e w' ⟨v0, rfl, hv0, hb0⟩; have HV0 := Aside0.mk hv0; have HB0 := Aside0.mk hb0; clear hv0 hb0))
      go_ret
      exact ⟨v0, rfl, Kd.R_lower HV0.out (below_size HB.out), below_step HB.out HB0.out⟩
end Go.Proofs.Ytejeelpnmdfibaa.Hw
end
section
/- Printed by a program of this seat (the kit's printer, with the functions that were proved by hand given to it). What stands here: the functions that the statements reach, as plain functions, and that the Go code computes them. -/
namespace Go.Proofs.Ytejeelpnmdfibaa.Pr
open Go.RowKit Go.Proofs.YtejeelpnmdfibaaW.PrintWords Go.Proofs.YtejeelpnmdfibaaW.PrintLast Go.Proofs.YtejeelpnmdfibaaW.PrintMore
attribute [local go_sem] max2_int min2_int max_two min_two max_three min_three max_four min_four   -- for this text's walks alone
set_option linter.unusedVariables false
set_option linter.unusedSimpArgs false

open Go.Proofs.Ytejeelpnmdfibaa.Hw
/-! ### cmp_isNaN_uint64: function 134 -/
def cmp_isNaN_uint64.f (a0 : Int) : Option (Bool) := some (a0 != a0)
set_option maxHeartbeats 8000000 in
set_option maxRecDepth 100000 in
theorem cmp_isNaN_uint64.calls (a0 : Int) (r : Bool) (w : World) (h : cmp_isNaN_uint64.f a0 = some r) :
  Calls Try.prog 134 #[.int .u64 a0] w fun e w' => e = .returned (.bool r) ∧ Drawn0 w w' := by
 have H : (some (a0 != a0)) = some r := h
 clear h
 obtain rfl := Option.some.inj H
 go_enter Try.func134,Try.ntmps134
 go_wp2
 go_ret
 exact ⟨by first|rfl|(simp;done)|(simp [*];done),by repeat (first|exact Drawn0.refl _|apply Drawn0.step)⟩
/-! ### cmp_Less_uint64: function 125 -/
def cmp_Less_uint64.f (a0 : Int) (a1 : Int) : Option (Bool) := (cmp_isNaN_uint64.f a0).bind fun t191 => (if t191 = true then ((cmp_isNaN_uint64.f a1).bind fun t192 => (if t192 = true then (some (decide (a0 < a1))) else (some true))) else (some (decide (a0 < a1))))
set_option maxHeartbeats 8000000 in
set_option maxRecDepth 100000 in
theorem cmp_Less_uint64.calls (a0 : Int) (a1 : Int) (r : Bool) (w : World) (h : cmp_Less_uint64.f a0 a1 = some r) :
  Calls Try.prog 125 #[.int .u64 a0,.int .u64 a1] w fun e w' => e = .returned (.bool r) ∧ Drawn0 w w' := by
 have H : ((cmp_isNaN_uint64.f a0).bind fun t191 => (if t191 = true then ((cmp_isNaN_uint64.f a1).bind fun t192 => (if t192 = true then (some (decide (a0 < a1))) else (some true))) else (some (decide (a0 < a1))))) = some r := h
 clear h
 replace H := Option.bind_eq_some_iff.mp H
 obtain ⟨t191,A30,H⟩ := H
 replace H : (if t191 = true then ((cmp_isNaN_uint64.f a1).bind fun t192 => (if t192 = true then (some (decide (a0 < a1))) else (some true))) else (some (decide (a0 < a1)))) = some r := H
 have A3 := Aside0.mk A30
 clear A30
 by_cases c4 : t191 = true
 ·subst c4
  have H1 : ((cmp_isNaN_uint64.f a1).bind fun t192 => (if t192 = true then (some (decide (a0 < a1))) else (some true))) = some r := by rw [if_pos rfl] at H;exact H
  clear H
  have H := H1
  clear H1
  replace H := Option.bind_eq_some_iff.mp H
  obtain ⟨t192,A50,H⟩ := H
  replace H : (if t192 = true then (some (decide (a0 < a1))) else (some true)) = some r := H
  have A5 := Aside0.mk A50
  clear A50
  by_cases c6 : t192 = true
  ·subst c6
   have H1 : (some (decide (a0 < a1))) = some r := by rw [if_pos rfl] at H;exact H
   clear H
   have H := H1
   clear H1
   obtain rfl := Option.some.inj H
   go_enter Try.func125,Try.ntmps125
   go_wp2_with (first|((with_reducible refine gate_callee (f := 134) rfl ?_);refine goesL_ (some 6) rfl rfl Try.func134 (by kernel_rfl) rfl #[.int .u64 a0] rfl (by (try simp only [List.map_toArray,List.map_cons,List.map_nil]);first|done|rfl|(simp only [List.length_drop,List.length_take];rfl)) ?_;(with_reducible refine (cmp_isNaN_uint64.calls a0 true _ A3.out).mono ?_);rintro e w' ⟨rfl,⟨nd,rfl⟩⟩;refine ⟨_,rfl,?_⟩)|(go_at_call 134;(with_reducible refine (cmp_isNaN_uint64.calls a1 true _ A5.out).mono ?_);rintro e w' ⟨rfl,⟨nd,rfl⟩⟩))
   go_ret
   exact ⟨by first|rfl|(simp;done)|(simp [*];done),by repeat (first|exact Drawn0.refl _|apply Drawn0.step)⟩
  ·replace c6 := Bool.eq_false_iff.mpr c6
   subst c6
   have H1 : (some true) = some r := by rw [if_neg (show ¬ (false = true) by decide)] at H;exact H
   clear H
   have H := H1
   clear H1
   obtain rfl := Option.some.inj H
   go_enter Try.func125,Try.ntmps125
   go_wp2_with (first|((with_reducible refine gate_callee (f := 134) rfl ?_);refine goesL_ (some 6) rfl rfl Try.func134 (by kernel_rfl) rfl #[.int .u64 a0] rfl (by (try simp only [List.map_toArray,List.map_cons,List.map_nil]);first|done|rfl|(simp only [List.length_drop,List.length_take];rfl)) ?_;(with_reducible refine (cmp_isNaN_uint64.calls a0 true _ A3.out).mono ?_);rintro e w' ⟨rfl,⟨nd,rfl⟩⟩;refine ⟨_,rfl,?_⟩)|(go_at_call 134;(with_reducible refine (cmp_isNaN_uint64.calls a1 false _ A5.out).mono ?_);rintro e w' ⟨rfl,⟨nd,rfl⟩⟩))
   go_ret
   exact ⟨by first|rfl|(simp;done)|(simp [*];done),by repeat (first|exact Drawn0.refl _|apply Drawn0.step)⟩
 ·replace c4 := Bool.eq_false_iff.mpr c4
  subst c4
  have H1 : (some (decide (a0 < a1))) = some r := by rw [if_neg (show ¬ (false = true) by decide)] at H;exact H
  clear H
  have H := H1
  clear H1
  obtain rfl := Option.some.inj H
  go_enter Try.func125,Try.ntmps125
  go_wp2_with (first|((with_reducible refine gate_callee (f := 134) rfl ?_);refine goesL_ (some 6) rfl rfl Try.func134 (by kernel_rfl) rfl #[.int .u64 a0] rfl (by (try simp only [List.map_toArray,List.map_cons,List.map_nil]);first|done|rfl|(simp only [List.length_drop,List.length_take];rfl)) ?_;(with_reducible refine (cmp_isNaN_uint64.calls a0 false _ A3.out).mono ?_);rintro e w' ⟨rfl,⟨nd,rfl⟩⟩;refine ⟨_,rfl,?_⟩))
  go_ret
  exact ⟨by first|rfl|(simp;done)|(simp [*];done),by repeat (first|exact Drawn0.refl _|apply Drawn0.step)⟩
end Go.Proofs.Ytejeelpnmdfibaa.Pr
end
section
/- Printed by a program of this seat (the kit's printer, with the functions that were proved by hand given to it). What stands here: the functions that the statements reach, as plain functions, and that the Go code computes them. -/
namespace Go.Proofs.Ytejeelpnmdfibaa.Pr
open Go.RowKit Go.Proofs.YtejeelpnmdfibaaW.PrintWords Go.Proofs.YtejeelpnmdfibaaW.PrintLast Go.Proofs.YtejeelpnmdfibaaW.PrintMore
attribute [local go_sem] max2_int min2_int max_two min_two max_three min_three max_four min_four   -- for this text's walks alone
set_option linter.unusedVariables false
set_option linter.unusedSimpArgs false

open Go.Proofs.Ytejeelpnmdfibaa.Hw
/-! ### slices_insertionSortOrdered_uint64: function 119 -/
mutual
def slices_insertionSortOrdered_uint64.l0 : Nat → List Int → Int → Int → Int → Option (List Int)
 | 0,_,_,_,_ => none
 | k + 1,x0,x1,x2,x6 => if x6 < x2 then (slices_insertionSortOrdered_uint64.l1 k x0 x1 x2 x6 x6) else (some x0)
def slices_insertionSortOrdered_uint64.l1 : Nat → List Int → Int → Int → Int → Int → Option (List Int)
 | 0,_,_,_,_,_ => none
 | k + 1,x0,x1,x2,x6,x7 => if x7 > x1 then (if 0 ≤ x7 then (if x7 < (x0.length : Int) then (if 0 ≤ (wrap64 (x7 - 1)) then (if (wrap64 (x7 - 1)) < (x0.length : Int) then ((cmp_Less_uint64.f (rd x0 x7) (rd x0 (wrap64 (x7 - 1)))).bind fun t195 => (if t195 = true then (slices_insertionSortOrdered_uint64.l1 k ((x0.set (x7 : Int).toNat (rd x0 (wrap64 (x7 - 1)))).set ((wrap64 (x7 - 1)) : Int).toNat (rd x0 x7)) x1 x2 x6 (wrap64 (x7 - 1))) else (slices_insertionSortOrdered_uint64.l0 k x0 x1 x2 (wrap64 (x6 + 1))))) else (none)) else (none)) else (none)) else (none)) else (slices_insertionSortOrdered_uint64.l0 k x0 x1 x2 (wrap64 (x6 + 1)))
end
def slices_insertionSortOrdered_uint64.f (k : Nat) (l0 : List Int) (a1 : Int) (a2 : Int) : Option (List Int) := slices_insertionSortOrdered_uint64.l0 k l0 a1 a2 (wrap64 (a1 + 1))
def slices_insertionSortOrdered_uint64.T4 : Bool × List (List Nat × List Nat) := (true, [([], []), ([], []), ([0, 1], [0, 1]), ([2], [2]), ([3], [3]), ([3], [3]), ([4, 5, 3], [3, 4, 5]), ([6, 3], [3, 6]), ([3], [3]), ([3], [3]), ([9, 3], [3, 9]), ([8, 10, 3], [3, 8, 10]), ([11, 3], [3, 11]), ([7, 12, 3, 3], [3, 7, 12]), ([3, 13], [3, 13])])
def slices_insertionSortOrdered_uint64.B4 : List Nat := [0, 0, 3, 7, 15, 15, 63, 127, 15, 15, 527, 1807, 3855, 8191, 16383]
theorem slices_insertionSortOrdered_uint64.tab4 : rtab .any (opsOf Try.f119 4) = slices_insertionSortOrdered_uint64.T4 := by kernel_rfl
theorem slices_insertionSortOrdered_uint64.bits4 : waitsOk slices_insertionSortOrdered_uint64.T4.2 slices_insertionSortOrdered_uint64.B4 = true := by kernel_rfl
def slices_insertionSortOrdered_uint64.T6 : Bool × List (List Nat × List Nat) := (true, [([], []), ([], []), ([], []), ([], []), ([3], [3]), ([], []), ([], []), ([6], [6]), ([5, 7], [5, 7]), ([8], [8]), ([], []), ([], []), ([10, 11], [10, 11]), ([12], [12]), ([0, 1, 0, 1, 5, 6, 7, 8, 9, 13], [0, 1]), ([14, 9, 0, 1, 5, 6, 7, 8, 9, 13], [9, 14]), ([2, 4, 0, 1, 2, 3, 4, 5, 6, 7, 8, 9, 10, 11, 12, 13, 14, 15], [2, 4]), ([16, 13, 15, 0, 1, 2, 3, 4, 5, 6, 7, 8, 9, 10, 11, 12, 13, 14, 15], [13, 16])])
def slices_insertionSortOrdered_uint64.B6 : List Nat := [0, 0, 0, 0, 8, 0, 0, 64, 224, 480, 0, 0, 3072, 7168, 16355, 32739, 65535, 131071]
theorem slices_insertionSortOrdered_uint64.tab6 : rtab .any (opsOf Try.f119 6) = slices_insertionSortOrdered_uint64.T6 := by kernel_rfl
theorem slices_insertionSortOrdered_uint64.bits6 : waitsOk slices_insertionSortOrdered_uint64.T6.2 slices_insertionSortOrdered_uint64.B6 = true := by kernel_rfl
set_option maxHeartbeats 8000000 in
set_option maxRecDepth 100000 in
theorem slices_insertionSortOrdered_uint64.calls (k : Nat) (P0_ : Nat → Prop) (u9000_ : Value) (l0 : List Int) (a1 : Int) (a2 : Int) (r : List Int) (w0 w : World) (hB : Below w0.heap.size w0 w) (ho0 : Kd.R (Kd.int .u64) 22 w w0.heap.size P0_ u9000_ l0) (h : slices_insertionSortOrdered_uint64.f k l0 a1 a2 = some r) :
  Calls Try.prog 119 #[u9000_,.int .i64 a1,.int .i64 a2] w fun e w' => e = .returned (.tuple #[]) ∧ Kd.R (Kd.int .u64) 22 w' w0.heap.size (fun k_ => (P0_ k_ ∨ w.heap.size ≤ k_)) u9000_ r ∧ Below w0.heap.size w0 w' ∧ Kept w w' (fun k_ => P0_ k_) := by
 have HO0 := Aside0.mk (show Kd.R (Kd.int .u64) 22 w w0.heap.size (fun k_ => (P0_ k_ ∨ w.heap.size ≤ k_)) u9000_ l0 from Kd.R_mono ho0 (fun k_ hk => (.inl hk)))
 have HK := Aside0.mk (Kept.refl w (fun k_ => P0_ k_))
 have HW0 := Aside0.mk hB.size
 have HB := Aside0.mk hB
 clear hB
 have H : (slices_insertionSortOrdered_uint64.l0 k l0 a1 a2 (wrap64 (a1 + 1))) = some r := h
 clear h
 have H' := Aside0.mk H
 clear H
 go_enter Try.func119,Try.ntmps119
 go_wp2
 go_loopg [6] k (fun kq v6 w' => ∃ (x0_1 : List Int) (x6_1 : Int),v6 = .int .i64 x6_1 ∧ Aside0 (slices_insertionSortOrdered_uint64.l0 kq x0_1 a1 a2 x6_1 = some r) ∧ Aside0 (kq ≤ k) ∧ Aside0 (Kd.R (Kd.int .u64) 22 w' w0.heap.size (fun k_ => (P0_ k_ ∨ w.heap.size ≤ k_)) u9000_ x0_1) ∧ Aside0 (Kept w w' (fun k_ => P0_ k_)) ∧ Aside0 (Below w0.heap.size w0 w'))
 case atStart => exact ⟨(l0),(wrap64 (a1 + 1)),(by first|rfl|(simp;done)|(simp [*];done)),H',⟨Nat.le_refl _⟩,⟨by (with_reducible repeat (first|apply Kd.R_alloc|apply Kd.R_drewN|apply Kd.R_drew));exact HO0.out⟩,⟨by repeat (first|(with_reducible first|exact HK.out|apply Kept.alloc|apply Kept.drewN|apply Kept.drew)|exact HK.out)⟩,⟨by repeat (first|(with_reducible first|exact HB.out|apply below_alloc|apply pw_below_drewN|apply below_drew1)|exact HB.out)⟩⟩
 case round =>
  clear H'
  try clear c1
  try clear p2
  obtain ⟨x0_1,x6_1,rfl,HA,HK1,HO_0,HK,HB⟩ := hrel
  cases gk with
  | zero => exact absurd HA.out (by simp [slices_insertionSortOrdered_uint64.l0])
  | succ k1 =>
   have H := HA.out
   clear HA
   simp only [slices_insertionSortOrdered_uint64.l0] at H
   by_cases c4 : x6_1 < a2
   ·rw [if_pos c4] at H
    have c4b0 : decide (x6_1 < a2) = true := decide_eq_true c4
    clear c4
    have H' := Aside0.mk H
    clear H
    go_wp2
    go_loopg [7] k1 (fun kq v7 w' => ∃ (x0_2 : List Int) (x7_2 : Int),v7 = .int .i64 x7_2 ∧ Aside0 (slices_insertionSortOrdered_uint64.l1 kq x0_2 a1 a2 x6_1 x7_2 = some r) ∧ Aside0 (kq ≤ k1) ∧ Aside0 (Kd.R (Kd.int .u64) 22 w' w0.heap.size (fun k_ => (P0_ k_ ∨ w.heap.size ≤ k_)) u9000_ x0_2) ∧ Aside0 (Kept w w' (fun k_ => P0_ k_)) ∧ Aside0 (Below w0.heap.size w0 w'))
    case atStart => exact ⟨(x0_1),(x6_1),(by first|rfl|(simp;done)|(simp [*];done)),H',⟨Nat.le_refl _⟩,⟨by (with_reducible repeat (first|apply Kd.R_alloc|apply Kd.R_drewN|apply Kd.R_drew));exact HO_0.out⟩,⟨by repeat (first|(with_reducible first|exact HK.out|apply Kept.alloc|apply Kept.drewN|apply Kept.drew)|exact HK.out)⟩,⟨by repeat (first|(with_reducible first|exact HB.out|apply below_alloc|apply pw_below_drewN|apply below_drew1)|exact HB.out)⟩⟩
    case round =>
     clear H'
     try clear c1
     try clear p2
     try clear c4
     try clear c4b0
     try clear p2
     obtain ⟨x0_2,x7_2,rfl,HA,HK2,HO_0,HK,HB⟩ := hrel
     cases gk with
     | zero => exact absurd HA.out (by simp [slices_insertionSortOrdered_uint64.l1])
     | succ k2 =>
      have H := HA.out
      clear HA
      simp only [slices_insertionSortOrdered_uint64.l1] at H
      by_cases c5 : x7_2 > a1
      ·rw [if_pos c5] at H
       have c5b0 : decide (a1 < x7_2) = true := decide_eq_true c5
       clear c5
       by_cases c6 : 0 ≤ x7_2
       ·rw [if_pos c6] at H
        have c6b0 : decide (0 ≤ x7_2) = true := decide_eq_true c6
        clear c6
        by_cases c7 : x7_2 < (x0_2.length : Int)
        ·rw [if_pos c7] at H
         have c7b0 : decide (x7_2 < (x0_2.length : Int)) = true := decide_eq_true c7
         clear c7
         obtain ⟨ji8,hji8⟩ : ∃ j_ : Int,(wrap64 (x7_2 - 1)) = j_ := ⟨_,rfl⟩
         replace H : (if 0 ≤ (ji8) then (if (ji8) < (x0_2.length : Int) then ((cmp_Less_uint64.f (rd x0_2 x7_2) (rd x0_2 (ji8))).bind fun t195 => (if t195 = true then (slices_insertionSortOrdered_uint64.l1 k2 ((x0_2.set (x7_2 : Int).toNat (rd x0_2 (ji8))).set ((ji8) : Int).toNat (rd x0_2 x7_2)) a1 a2 x6_1 ji8) else (slices_insertionSortOrdered_uint64.l0 k2 x0_2 a1 a2 (wrap64 (x6_1 + 1))))) else (none)) else (none)) = some r := by first|(rw [hji8] at H;exact H)|(simp only [hji8] at H ⊢;exact H)
         have hji8w : (IntKind.i64.wrap (x7_2 - 1)) = ji8 := (i64_w _).trans hji8
         by_cases c9 : 0 ≤ (ji8)
         ·rw [if_pos c9] at H
          have c9b0 : decide (0 ≤ (ji8)) = true := decide_eq_true c9
          clear c9
          by_cases c10 : (ji8) < (x0_2.length : Int)
          ·rw [if_pos c10] at H
           have c10b0 : decide ((ji8) < (x0_2.length : Int)) = true := decide_eq_true c10
           clear c10
           replace H := Option.bind_eq_some_iff.mp H
           obtain ⟨t195,A110,H⟩ := H
           replace H : (if t195 = true then (slices_insertionSortOrdered_uint64.l1 k2 ((x0_2.set (x7_2 : Int).toNat (rd x0_2 (ji8))).set ((ji8) : Int).toNat (rd x0_2 x7_2)) a1 a2 x6_1 ji8) else (slices_insertionSortOrdered_uint64.l0 k2 x0_2 a1 a2 (wrap64 (x6_1 + 1)))) = some r := H
           have A11 := Aside0.mk A110
           clear A110
           by_cases c12 : t195 = true
           ·subst c12
            have H1 : (slices_insertionSortOrdered_uint64.l1 k2 ((x0_2.set (x7_2 : Int).toNat (rd x0_2 (ji8))).set ((ji8) : Int).toNat (rd x0_2 x7_2)) a1 a2 x6_1 ji8) = some r := by rw [if_pos rfl] at H;exact H
            clear H
            have H := H1
            clear H1
            obtain ⟨y198,hy198⟩ : ∃ y_ : List Int,y_ = (x0_2.set (x7_2 : Int).toNat (rd x0_2 (ji8))) := ⟨_,rfl⟩
            replace H : (slices_insertionSortOrdered_uint64.l1 k2 (y198.set ((ji8) : Int).toNat (rd x0_2 x7_2)) a1 a2 x6_1 ji8) = some r := by first|(rw [hy198];with_reducible exact H)|(have H2_ := (Option.bind_some _ _).symm.trans H;rw [hy198];with_reducible exact H2_)|(have H2_ := (Option.bind_some _ _).symm.trans H;with_reducible exact H2_)|with_reducible exact H|(rw [hy198];exact H)|exact H
            have Ny198 := Aside0.mk hy198
            clear hy198
            obtain ⟨y199,hy199⟩ : ∃ y_ : List Int,y_ = (y198.set ((ji8) : Int).toNat (rd x0_2 x7_2)) := ⟨_,rfl⟩
            replace H : (slices_insertionSortOrdered_uint64.l1 k2 y199 a1 a2 x6_1 ji8) = some r := by first|(rw [hy199];with_reducible exact H)|(have H2_ := (Option.bind_some _ _).symm.trans H;rw [hy199];with_reducible exact H2_)|(have H2_ := (Option.bind_some _ _).symm.trans H;with_reducible exact H2_)|with_reducible exact H|(rw [hy199];exact H)|exact H
            have Ny199 := Aside0.mk hy199
            clear hy199
            have H' := Aside0.mk H
            clear H
            try go_wp2
            have n0_ := Aside0.mk (Kd.R_drew HO_0.out)
            have n1_ := Aside0.mk (Kept.drew HK.out)
            have n2_ := Aside0.mk (below_drew1 HB.out)
            clear HO_0
            clear HK
            clear HB
            have HO_0 := n0_
            have HK := n1_
            have HB := n2_
            clear n0_ n1_ n2_
            obtain ⟨Ao16,co16,eo16⟩ := Kd.R_slice HO_0.out
            (first|subst eo16|(injection eo16 with f1_ f2_ f3_;have f4_ := f1_.symm;have f5_ := f3_.symm;clear f1_ f2_ f3_;subst f4_;subst f5_))
            have p193 : 0 ≤ (x7_2 : Int) := of_decide_eq_true (by first|(with_reducible assumption)|assumption)
            have q193 : x7_2 < (x0_2.length : Int) := of_decide_eq_true (by first|(with_reducible assumption)|assumption)
            obtain ⟨ad193,e193,hx193_0⟩ := Kd.at_int (Kd.R_reads' HO_0.out).2.2 x7_2 p193 q193
            cases e193
            replace p193 := eq_true p193
            replace q193 := eq_true q193
            have p194 : 0 ≤ ((ji8) : Int) := of_decide_eq_true (by first|(with_reducible assumption)|assumption)
            have q194 : (ji8) < (x0_2.length : Int) := of_decide_eq_true (by first|(with_reducible assumption)|assumption)
            obtain ⟨ad194,e194,hx194_0⟩ := Kd.at_int (Kd.R_reads' HO_0.out).2.2 (ji8) p194 q194
            obtain rfl : ad193 = ad194 := (by injection e194)
            replace p194 := eq_true p194
            replace q194 := eq_true q194
            refine start_ (n := 15) (S := fun w' => w'.cell? (ad193.add (x7_2).toNat) = some (.int .u64 (rd x0_2 x7_2)) ∧ w'.cell? (ad193.add ((ji8)).toNat) = some (.int .u64 (rd x0_2 (ji8)))) (ds := []) #[false,false,false,false,false,false,false,false,false,false,false,false,false,false,false] (by kernel_rfl) rfl rfl ⟨hx193_0,hx194_0⟩ (fun hHeld => ?_);refine with_tabW slices_insertionSortOrdered_uint64.tab4 slices_insertionSortOrdered_uint64.bits4 (fun HT_ HW_ => ?_)
            generalize wr.drew = w15 at HO_0 HK HB hx193_0 hx194_0 hHeld ⊢
            refine pure_ (i := 0) (N := some 16) (v := ?_) (a' := ?_) #[true,false,false,false,false,false,false,false,false,false,false,false,false,false,false] rfl rfl (any_of HT_.out (by kernel_rfl)) (fun _ _ _ h => h) (Or.inl ⟨by rfl,?_⟩) ?_ ?_
            rotate_left
            ·intro w'
             go_simp
             with_reducible rfl
            rotate_left
            ·simp only [Act.put,List.setIfInBounds_toArray,List.set_cons_zero,List.set_cons_succ,i64_w,i32_w]
             rfl
            refine pure_ (i := 1) (N := some 17) (v := ?_) (a' := ?_) #[true,true,false,false,false,false,false,false,false,false,false,false,false,false,false] rfl rfl (any_of HT_.out (by kernel_rfl)) (fun _ _ _ h => h) (Or.inl ⟨by rfl,?_⟩) ?_ ?_
            rotate_left
            ·intro w'
             go_simp
             with_reducible rfl
            rotate_left
            ·simp only [Act.put,List.setIfInBounds_toArray,List.set_cons_zero,List.set_cons_succ,i64_w,i32_w]
             rfl
            refine pure_ (i := 2) (N := some 18) (v := ?_) (a' := ?_) #[true,true,true,false,false,false,false,false,false,false,false,false,false,false,false] rfl rfl (any_of HT_.out (by kernel_rfl)) (fun _ _ _ h => h) (Or.inl ⟨by rfl,?_⟩) ?_ ?_
            rotate_left
            ·intro w'
             go_simp
             with_reducible rfl
            rotate_left
            ·simp only [Act.put,List.setIfInBounds_toArray,List.set_cons_zero,List.set_cons_succ,i64_w,i32_w]
             rfl
            refine pure_ (i := 3) (N := some 19) (v := ?_) (a' := ?_) #[true,true,true,true,false,false,false,false,false,false,false,false,false,false,false] rfl rfl (any_of HT_.out (by kernel_rfl)) (fun _ _ _ h => h) (Or.inl ⟨by rfl,?_⟩) ?_ ?_
            rotate_left
            ·intro w'
             go_simp
             with_reducible rfl
            rotate_left
            ·simp only [Act.put,List.setIfInBounds_toArray,List.set_cons_zero,List.set_cons_succ,i64_w,i32_w]
             rfl
            refine pure_ (i := 4) (N := some 20) (v := ?_) (a' := ?_) #[true,true,true,true,true,false,false,false,false,false,false,false,false,false,false] rfl rfl (any_of HT_.out (by kernel_rfl)) (fun _ _ _ h => h) (Or.inl ⟨by rfl,?_⟩) ?_ ?_
            rotate_left
            ·intro w'
             go_simp
             with_reducible rfl
            rotate_left
            ·simp only [Act.put,List.setIfInBounds_toArray,List.set_cons_zero,List.set_cons_succ,i64_w,i32_w]
             rfl
            refine pure_ (i := 5) (N := some 21) (v := ?_) (a' := ?_) #[true,true,true,true,true,true,false,false,false,false,false,false,false,false,false] rfl rfl (any_of HT_.out (by kernel_rfl)) (fun _ _ _ h => h) (Or.inl ⟨by rfl,?_⟩) ?_ ?_
            rotate_left
            ·intro w'
             go_simp
             with_reducible rfl
            rotate_left
            ·simp only [Act.put,List.setIfInBounds_toArray,List.set_cons_zero,List.set_cons_succ,i64_w,i32_w]
             rfl
            refine pure_ (i := 6) (N := some 22) (v := ?_) (a' := ?_) #[true,true,true,true,true,true,true,false,false,false,false,false,false,false,false] rfl rfl (any_of HT_.out (by kernel_rfl)) (fun _ _ _ h => h) (Or.inl ⟨by rfl,?_⟩) ?_ ?_
            rotate_left
            ·intro w'
             go_simp
             with_reducible rfl
            rotate_left
            ·simp only [Act.put,List.setIfInBounds_toArray,List.set_cons_zero,List.set_cons_succ,i64_w,i32_w]
             rfl
            refine pure_ (i := 8) (N := some 24) (v := ?_) (a' := ?_) #[true,true,true,true,true,true,true,false,true,false,false,false,false,false,false] rfl rfl (any_of HT_.out (by kernel_rfl)) (fun _ _ _ h => h) (Or.inl ⟨by rfl,?_⟩) ?_ ?_
            rotate_left
            ·intro w'
             go_simp
             with_reducible rfl
            rotate_left
            ·simp only [Act.put,List.setIfInBounds_toArray,List.set_cons_zero,List.set_cons_succ,i64_w,i32_w]
             rfl
            refine pure_ (i := 9) (N := some 25) (v := ?_) (a' := ?_) #[true,true,true,true,true,true,true,false,true,true,false,false,false,false,false] rfl rfl (any_of HT_.out (by kernel_rfl)) (fun _ _ _ h => h) (Or.inl ⟨by rfl,?_⟩) ?_ ?_
            rotate_left
            ·intro w'
             go_simp
             with_reducible rfl
            rotate_left
            ·simp only [Act.put,List.setIfInBounds_toArray,List.set_cons_zero,List.set_cons_succ,i64_w,i32_w]
             rfl
            refine pure_ (i := 10) (N := some 26) (v := ?_) (a' := ?_) #[true,true,true,true,true,true,true,false,true,true,true,false,false,false,false] rfl rfl (any_of HT_.out (by kernel_rfl)) (fun _ _ _ h => h) (Or.inl ⟨by rfl,?_⟩) ?_ ?_
            rotate_left
            ·intro w'
             go_simp
             with_reducible rfl
            rotate_left
            ·simp only [Act.put,List.setIfInBounds_toArray,List.set_cons_zero,List.set_cons_succ,i64_w,i32_w]
             rfl
            refine pure_ (i := 11) (N := some 27) (v := ?_) (a' := ?_) #[true,true,true,true,true,true,true,false,true,true,true,true,false,false,false] rfl rfl (any_of HT_.out (by kernel_rfl)) (fun _ _ _ h => h) (Or.inl ⟨by rfl,?_⟩) ?_ ?_
            rotate_left
            ·intro w'
             go_simp
             with_reducible rfl
            rotate_left
            ·simp only [Act.put,List.setIfInBounds_toArray,List.set_cons_zero,List.set_cons_succ,i64_w,i32_w]
             rfl
            refine take_ (i := 7) (N := some 23) (v := ?_) (a' := ?_) #[true,true,true,true,true,true,true,true,true,true,true,true,false,false,false] rfl rfl (take_ofW HT_.out HW_.out (by kernel_rfl)) (fun _ _ _ h => h) (Or.inl ⟨by rfl,?_⟩) hHeld ?_ ?_
            rotate_left
            ·rintro w' ⟨s0,s1⟩
             go_simp
             with_reducible rfl
            rotate_left
            ·simp only [Act.put,List.setIfInBounds_toArray,List.set_cons_zero,List.set_cons_succ,i64_w,i32_w]
             rfl
            refine take_ (i := 12) (N := some 28) (v := ?_) (a' := ?_) #[true,true,true,true,true,true,true,true,true,true,true,true,true,false,false] rfl rfl (take_ofW HT_.out HW_.out (by kernel_rfl)) (fun _ _ _ h => h) (Or.inl ⟨by rfl,?_⟩) hHeld ?_ ?_
            rotate_left
            ·rintro w' ⟨s0,s1⟩
             go_simp
             with_reducible rfl
            rotate_left
            ·simp only [Act.put,List.setIfInBounds_toArray,List.set_cons_zero,List.set_cons_succ,i64_w,i32_w]
             rfl
            refine one_ (i := 13) (N := some 29) #[true,true,true,true,true,true,true,true,true,true,true,true,true,true,false] rfl rfl (one_of HT_.out (by kernel_rfl)) (by decide) (fun K hK => ?_)
            refine goes_ Try.func125 (by kernel_rfl) rfl #[.int .u64 (rd x0_2 x7_2),.int .u64 (rd x0_2 (ji8))] (by rfl) rfl rfl (by (try simp only [List.map_toArray,List.map_cons,List.map_nil]);first|done|(simp only [hji8];rfl)|rfl|(simp only [List.length_drop,List.length_take];rfl)) ?_
            with_reducible refine (cmp_Less_uint64.calls (rd x0_2 x7_2) (rd x0_2 (ji8)) true _ A11.out).mono ?_
            rintro e w' ⟨rfl,⟨nd,rfl⟩⟩
            refine ⟨_,rfl,?_⟩
            refine hK.out _ _ ⟨hHeld.1,hHeld.2⟩ (fun hHeld => ?_)
            clear hK K
            refine norm_ (a' := ?_) ?_ ?_
            rotate_left
            ·show Act.put _ (some 29) _ = _
             simp only [Act.put,List.setIfInBounds_toArray,List.set_cons_zero,List.set_cons_succ,i64_w,i32_w]
             rfl
            refine pure_ (i := 14) (N := some 30) (v := ?_) (a' := ?_) #[true,true,true,true,true,true,true,true,true,true,true,true,true,true,true] rfl rfl (any_of HT_.out (by kernel_rfl)) (fun _ _ _ h => h) (Or.inl ⟨by rfl,?_⟩) ?_ ?_
            rotate_left
            ·intro w'
             go_simp
             with_reducible rfl
            rotate_left
            ·simp only [Act.put,List.setIfInBounds_toArray,List.set_cons_zero,List.set_cons_succ,i64_w,i32_w]
             rfl
            refine done_ (done_of HT_.out (by kernel_rfl)) ?_
            try go_wp2
            (try (rw [drewN_self w15];generalize hq_ : World.drewN w15 _ = w15;have n0_ : Aside0 (Kd.R (Kd.int .u64) 22 w15 w0.heap.size (fun k_ => (P0_ k_ ∨ w.heap.size ≤ k_)) (.slice (some ad193) x0_2.length co16) x0_2) := ⟨by rw [← hq_];exact (by (with_reducible repeat (first|apply Kd.R_alloc|apply Kd.R_drewN|apply Kd.R_drew));exact HO_0.out)⟩;have n1_ : Aside0 (Kept w w15 (fun k_ => P0_ k_)) := ⟨by rw [← hq_];exact (by repeat (first|(with_reducible first|exact HK.out|apply Kept.alloc|apply Kept.drewN|apply Kept.drew)|exact HK.out))⟩;have n2_ : Aside0 (Below w0.heap.size w0 w15) := ⟨by rw [← hq_];exact (by repeat (first|(with_reducible first|exact HB.out|apply below_alloc|apply pw_below_drewN|apply below_drew1)|exact HB.out))⟩;clear HO_0 HK HB hq_;have HO_0 := n0_;have HK := n1_;have HB := n2_;clear n0_ n1_ n2_))
            have n0_ := Aside0.mk (Kd.R_drew HO_0.out)
            have n1_ := Aside0.mk (Kept.drew HK.out)
            have n2_ := Aside0.mk (below_drew1 HB.out)
            clear HO_0
            clear HK
            clear HB
            have HO_0 := n0_
            have HK := n1_
            have HB := n2_
            clear n0_ n1_ n2_
            have p196 : 0 ≤ ((ji8) : Int) := of_decide_eq_true (by first|(with_reducible assumption)|assumption)
            have q196 : (ji8) < (x0_2.length : Int) := of_decide_eq_true (by first|(with_reducible assumption)|assumption)
            obtain ⟨ad196,e196,hx196_0⟩ := Kd.at_int (Kd.R_reads' HO_0.out).2.2 (ji8) p196 q196
            obtain rfl : ad193 = ad196 := (by injection e196)
            replace p196 := eq_true p196
            replace q196 := eq_true q196
            have p197 : 0 ≤ (x7_2 : Int) := of_decide_eq_true (by first|(with_reducible assumption)|assumption)
            have q197 : x7_2 < (x0_2.length : Int) := of_decide_eq_true (by first|(with_reducible assumption)|assumption)
            obtain ⟨ad197,e197,hx197_0⟩ := Kd.at_int (Kd.R_reads' HO_0.out).2.2 x7_2 p197 q197
            obtain rfl : ad193 = ad197 := (by injection e197)
            replace p197 := eq_true p197
            replace q197 := eq_true q197
            have p13 : 0 ≤ (x7_2 : Int) := of_decide_eq_true (by first|(with_reducible assumption)|assumption)
            have q13 : (x7_2 : Int) < ((x0_2.length : Int) : Int) := of_decide_eq_true (by first|(with_reducible assumption)|assumption)
            obtain ⟨go13,co13,eo13,gb13,gl13,cl13,HG13⟩ := Kd.R_form HO_0.out (by omega)
            (first|cases eo13|(injection eo13 with ea_ en_ ec_;(first|subst ea_|(injection ea_ with ea_;subst ea_));subst ec_;clear en_))
            have GB13 := Aside0.mk gb13
            have GG13 := Aside0.mk HG13
            clear gb13 gl13 HG13
            have HMgo13 := Aside0.mk (show (P0_ go13 ∨ w.heap.size ≤ go13) from (HO_0.out.1 _ rfl))
            (first|simp only [add_plain] at hx193_0|skip)
            (first|simp only [add_plain] at hx194_0|skip)
            (first|simp only [add_plain] at hx196_0|skip)
            (first|simp only [add_plain] at hx197_0|skip)
            obtain ⟨hx13_0,hf13_0⟩ := Kd.R_celln 0 HO_0.out (x7_2 : Int) p13 q13
            replace p13 := eq_true p13
            replace q13 := eq_true q13
            have HP18 := Kd.R_putn HO_0.out (x7_2 : Int) (rd x0_2 (ji8))
            rw [← Ny198.out] at HP18
            have HQ18 := Aside0.mk HP18
            clear HP18
            have p14 : 0 ≤ ((ji8) : Int) := of_decide_eq_true (by first|(with_reducible assumption)|assumption)
            have q14 : ((ji8) : Int) < ((x0_2.length : Int) : Int) := of_decide_eq_true (by first|(with_reducible assumption)|assumption)
            obtain ⟨hx14_0,hf14_0⟩ := Kd.R_celln 0 HQ18.out ((ji8) : Int) p14 q14
            replace p14 := eq_true p14
            replace q14 := eq_true q14
            have HP19 := Kd.R_putn HQ18.out ((ji8) : Int) (rd x0_2 x7_2)
            rw [← Ny199.out] at HP19
            have HQ19 := Aside0.mk HP19
            clear HP19
            refine start_ (n := 18) (S := fun w' => w'.cell? ⟨go13,((ji8)).toNat,none⟩ = some (.int .u64 (rd x0_2 (ji8))) ∧ w'.cell? ⟨go13,(x7_2).toNat,none⟩ = some (.int .u64 (rd x0_2 x7_2))) (ds := [15,17]) #[false,false,false,false,false,false,false,false,false,false,false,false,false,false,false,false,false,false] (by kernel_rfl) rfl rfl ⟨hx196_0,hx197_0⟩ (fun hHeld => ?_);refine with_tabW slices_insertionSortOrdered_uint64.tab6 slices_insertionSortOrdered_uint64.bits6 (fun HT_ HW_ => ?_)
            generalize w15.drew = w17 at HO_0 HK HB GG13 HQ18 HQ19 hf13_0 hf14_0 hx13_0 hx14_0 hx193_0 hx194_0 hx196_0 hx197_0 hHeld ⊢
            refine pure_ (i := 0) (N := some 33) (v := ?_) (a' := ?_) #[true,false,false,false,false,false,false,false,false,false,false,false,false,false,false,false,false,false] rfl rfl (any_of HT_.out (by kernel_rfl)) (fun _ _ _ h => h) (Or.inl ⟨by rfl,?_⟩) ?_ ?_
            rotate_left
            ·intro w'
             go_simp
             with_reducible rfl
            rotate_left
            ·simp only [Act.put,List.setIfInBounds_toArray,List.set_cons_zero,List.set_cons_succ,i64_w,i32_w]
             rfl
            refine pure_ (i := 1) (N := some 34) (v := ?_) (a' := ?_) #[true,true,false,false,false,false,false,false,false,false,false,false,false,false,false,false,false,false] rfl rfl (any_of HT_.out (by kernel_rfl)) (fun _ _ _ h => h) (Or.inl ⟨by rfl,?_⟩) ?_ ?_
            rotate_left
            ·intro w'
             go_simp
             with_reducible rfl
            rotate_left
            ·simp only [Act.put,List.setIfInBounds_toArray,List.set_cons_zero,List.set_cons_succ,i64_w,i32_w]
             rfl
            refine pure_ (i := 2) (N := some 35) (v := ?_) (a' := ?_) #[true,true,true,false,false,false,false,false,false,false,false,false,false,false,false,false,false,false] rfl rfl (any_of HT_.out (by kernel_rfl)) (fun _ _ _ h => h) (Or.inl ⟨by rfl,?_⟩) ?_ ?_
            rotate_left
            ·intro w'
             go_simp
             with_reducible rfl
            rotate_left
            ·simp only [Act.put,List.setIfInBounds_toArray,List.set_cons_zero,List.set_cons_succ,i64_w,i32_w]
             rfl
            refine pure_ (i := 3) (N := some 36) (v := ?_) (a' := ?_) #[true,true,true,true,false,false,false,false,false,false,false,false,false,false,false,false,false,false] rfl rfl (any_of HT_.out (by kernel_rfl)) (fun _ _ _ h => h) (Or.inl ⟨by rfl,?_⟩) ?_ ?_
            rotate_left
            ·intro w'
             go_simp
             with_reducible rfl
            rotate_left
            ·simp only [Act.put,List.setIfInBounds_toArray,List.set_cons_zero,List.set_cons_succ,i64_w,i32_w]
             rfl
            refine pure_ (i := 4) (N := some 37) (v := ?_) (a' := ?_) #[true,true,true,true,true,false,false,false,false,false,false,false,false,false,false,false,false,false] rfl rfl (any_of HT_.out (by kernel_rfl)) (fun _ _ _ h => h) (Or.inl ⟨by rfl,?_⟩) ?_ ?_
            rotate_left
            ·intro w'
             go_simp
             with_reducible rfl
            rotate_left
            ·simp only [Act.put,List.setIfInBounds_toArray,List.set_cons_zero,List.set_cons_succ,i64_w,i32_w]
             rfl
            refine pure_ (i := 5) (N := some 38) (v := ?_) (a' := ?_) #[true,true,true,true,true,true,false,false,false,false,false,false,false,false,false,false,false,false] rfl rfl (any_of HT_.out (by kernel_rfl)) (fun _ _ _ h => h) (Or.inl ⟨by rfl,?_⟩) ?_ ?_
            rotate_left
            ·intro w'
             go_simp
             with_reducible rfl
            rotate_left
            ·simp only [Act.put,List.setIfInBounds_toArray,List.set_cons_zero,List.set_cons_succ,i64_w,i32_w]
             rfl
            refine pure_ (i := 6) (N := some 39) (v := ?_) (a' := ?_) #[true,true,true,true,true,true,true,false,false,false,false,false,false,false,false,false,false,false] rfl rfl (any_of HT_.out (by kernel_rfl)) (fun _ _ _ h => h) (Or.inl ⟨by rfl,?_⟩) ?_ ?_
            rotate_left
            ·intro w'
             go_simp
             with_reducible rfl
            rotate_left
            ·simp only [Act.put,List.setIfInBounds_toArray,List.set_cons_zero,List.set_cons_succ,i64_w,i32_w]
             rfl
            refine pure_ (i := 7) (N := some 40) (v := ?_) (a' := ?_) #[true,true,true,true,true,true,true,true,false,false,false,false,false,false,false,false,false,false] rfl rfl (any_of HT_.out (by kernel_rfl)) (fun _ _ _ h => h) (Or.inl ⟨by rfl,?_⟩) ?_ ?_
            rotate_left
            ·intro w'
             go_simp
             with_reducible rfl
            rotate_left
            ·simp only [Act.put,List.setIfInBounds_toArray,List.set_cons_zero,List.set_cons_succ,i64_w,i32_w]
             rfl
            refine pure_ (i := 8) (N := some 41) (v := ?_) (a' := ?_) #[true,true,true,true,true,true,true,true,true,false,false,false,false,false,false,false,false,false] rfl rfl (any_of HT_.out (by kernel_rfl)) (fun _ _ _ h => h) (Or.inl ⟨by rfl,?_⟩) ?_ ?_
            rotate_left
            ·intro w'
             go_simp
             with_reducible rfl
            rotate_left
            ·simp only [Act.put,List.setIfInBounds_toArray,List.set_cons_zero,List.set_cons_succ,i64_w,i32_w]
             rfl
            refine pure_ (i := 10) (N := some 43) (v := ?_) (a' := ?_) #[true,true,true,true,true,true,true,true,true,false,true,false,false,false,false,false,false,false] rfl rfl (any_of HT_.out (by kernel_rfl)) (fun _ _ _ h => h) (Or.inl ⟨by rfl,?_⟩) ?_ ?_
            rotate_left
            ·intro w'
             go_simp
             with_reducible rfl
            rotate_left
            ·simp only [Act.put,List.setIfInBounds_toArray,List.set_cons_zero,List.set_cons_succ,i64_w,i32_w]
             rfl
            refine pure_ (i := 11) (N := some 44) (v := ?_) (a' := ?_) #[true,true,true,true,true,true,true,true,true,false,true,true,false,false,false,false,false,false] rfl rfl (any_of HT_.out (by kernel_rfl)) (fun _ _ _ h => h) (Or.inl ⟨by rfl,?_⟩) ?_ ?_
            rotate_left
            ·intro w'
             go_simp
             with_reducible rfl
            rotate_left
            ·simp only [Act.put,List.setIfInBounds_toArray,List.set_cons_zero,List.set_cons_succ,i64_w,i32_w]
             rfl
            refine pure_ (i := 12) (N := some 45) (v := ?_) (a' := ?_) #[true,true,true,true,true,true,true,true,true,false,true,true,true,false,false,false,false,false] rfl rfl (any_of HT_.out (by kernel_rfl)) (fun _ _ _ h => h) (Or.inl ⟨by rfl,?_⟩) ?_ ?_
            rotate_left
            ·intro w'
             go_simp
             with_reducible rfl
            rotate_left
            ·simp only [Act.put,List.setIfInBounds_toArray,List.set_cons_zero,List.set_cons_succ,i64_w,i32_w]
             rfl
            refine take_ (i := 9) (N := some 42) (v := ?_) (a' := ?_) #[true,true,true,true,true,true,true,true,true,true,true,true,true,false,false,false,false,false] rfl rfl (take_ofW HT_.out HW_.out (by kernel_rfl)) (fun _ _ _ h => h) (Or.inl ⟨by rfl,?_⟩) hHeld ?_ ?_
            rotate_left
            ·rintro w' ⟨s0,s1⟩
             go_simp
             with_reducible rfl
            rotate_left
            ·simp only [Act.put,List.setIfInBounds_toArray,List.set_cons_zero,List.set_cons_succ,i64_w,i32_w]
             rfl
            refine take_ (i := 13) (N := some 46) (v := ?_) (a' := ?_) #[true,true,true,true,true,true,true,true,true,true,true,true,true,true,false,false,false,false] rfl rfl (take_ofW HT_.out HW_.out (by kernel_rfl)) (fun _ _ _ h => h) (Or.inl ⟨by rfl,?_⟩) hHeld ?_ ?_
            rotate_left
            ·rintro w' ⟨s0,s1⟩
             go_simp
             with_reducible rfl
            rotate_left
            ·simp only [Act.put,List.setIfInBounds_toArray,List.set_cons_zero,List.set_cons_succ,i64_w,i32_w]
             rfl
            refine pure_ (i := 14) (N := some 47) (v := ?_) (a' := ?_) #[true,true,true,true,true,true,true,true,true,true,true,true,true,true,true,false,false,false] rfl rfl (any_of HT_.out (by kernel_rfl)) (fun _ _ _ h => h) (Or.inl ⟨by rfl,?_⟩) ?_ ?_
            rotate_left
            ·intro w'
             go_simp
             with_reducible rfl
            rotate_left
            ·simp only [Act.put,List.setIfInBounds_toArray,List.set_cons_zero,List.set_cons_succ,i64_w,i32_w]
             rfl
            refine last_ (i := 15) (N := none) #[true,true,true,true,true,true,true,true,true,true,true,true,true,true,true,true,false,false] rfl rfl (one_of HT_.out (by kernel_rfl)) (by decide) (fun K hK => ?_)
            refine skip_ (w1 := ?_) (by rfl) rfl ?_ ?_
            rotate_left
            ·go_simp
             rfl
            refine hK.out _ _ ?_
            clear hK K
            refine pure_ (i := 16) (N := some 48) (v := ?_) (a' := ?_) #[true,true,true,true,true,true,true,true,true,true,true,true,true,true,true,true,true,false] rfl rfl (any_of HT_.out (by kernel_rfl)) (fun _ _ _ h => h) (Or.inl ⟨by rfl,?_⟩) ?_ ?_
            rotate_left
            ·intro w'
             go_simp
             with_reducible rfl
            rotate_left
            ·simp only [Act.put,List.setIfInBounds_toArray,List.set_cons_zero,List.set_cons_succ,i64_w,i32_w]
             rfl
            refine last_ (i := 17) (N := none) #[true,true,true,true,true,true,true,true,true,true,true,true,true,true,true,true,true,true] rfl rfl (one_of HT_.out (by kernel_rfl)) (by decide) (fun K hK => ?_)
            refine skip_ (w1 := ?_) (by rfl) rfl ?_ ?_
            rotate_left
            ·go_simp
             rfl
            refine hK.out _ _ ?_
            clear hK K
            refine done_ (done_of HT_.out (by kernel_rfl)) ?_
            try go_wp2
            go_roundg k2
            case measure => have := HK1.out;have := HK2.out;omega
            case rel => exact ⟨(y199),(ji8),(by first|rfl|(simp;done)|(simp only [← hji8] <;> (first|rfl|simp))|(simp [*];done)),H',⟨by have := HK1.out;have := HK2.out;omega⟩,⟨by (with_reducible repeat (first|apply Kd.R_alloc|apply Kd.R_drewN|apply Kd.R_drew));exact HQ19.out⟩,⟨by repeat (first|(with_reducible first|exact HK.out|apply Kept.alloc|apply Kept.drewN|apply Kept.drew|refine Kept.setCell ?_ HMgo13.out _|refine Kept.setCell ?_ HMgo13.out _)|exact HK.out)⟩,⟨by repeat (first|(with_reducible first|exact HB.out|apply below_alloc|apply pw_below_drewN|apply below_drew1|refine below_set ?_ GB13.out|refine below_set ?_ GB13.out)|exact HB.out)⟩⟩
           ·replace c12 := Bool.eq_false_iff.mpr c12
            subst c12
            have H1 : (slices_insertionSortOrdered_uint64.l0 k2 x0_2 a1 a2 (wrap64 (x6_1 + 1))) = some r := by rw [if_neg (show ¬ (false = true) by decide)] at H;exact H
            clear H
            have H := H1
            clear H1
            have H' := Aside0.mk H
            clear H
            try go_wp2
            have n0_ := Aside0.mk (Kd.R_drew HO_0.out)
            have n1_ := Aside0.mk (Kept.drew HK.out)
            have n2_ := Aside0.mk (below_drew1 HB.out)
            clear HO_0
            clear HK
            clear HB
            have HO_0 := n0_
            have HK := n1_
            have HB := n2_
            clear n0_ n1_ n2_
            obtain ⟨Ao21,co21,eo21⟩ := Kd.R_slice HO_0.out
            (first|subst eo21|(injection eo21 with f1_ f2_ f3_;have f4_ := f1_.symm;have f5_ := f3_.symm;clear f1_ f2_ f3_;subst f4_;subst f5_))
            have p193 : 0 ≤ (x7_2 : Int) := of_decide_eq_true (by first|(with_reducible assumption)|assumption)
            have q193 : x7_2 < (x0_2.length : Int) := of_decide_eq_true (by first|(with_reducible assumption)|assumption)
            obtain ⟨ad193,e193,hx193_0⟩ := Kd.at_int (Kd.R_reads' HO_0.out).2.2 x7_2 p193 q193
            cases e193
            replace p193 := eq_true p193
            replace q193 := eq_true q193
            have p194 : 0 ≤ ((ji8) : Int) := of_decide_eq_true (by first|(with_reducible assumption)|assumption)
            have q194 : (ji8) < (x0_2.length : Int) := of_decide_eq_true (by first|(with_reducible assumption)|assumption)
            obtain ⟨ad194,e194,hx194_0⟩ := Kd.at_int (Kd.R_reads' HO_0.out).2.2 (ji8) p194 q194
            obtain rfl : ad193 = ad194 := (by injection e194)
            replace p194 := eq_true p194
            replace q194 := eq_true q194
            refine start_ (n := 15) (S := fun w' => w'.cell? (ad193.add (x7_2).toNat) = some (.int .u64 (rd x0_2 x7_2)) ∧ w'.cell? (ad193.add ((ji8)).toNat) = some (.int .u64 (rd x0_2 (ji8)))) (ds := []) #[false,false,false,false,false,false,false,false,false,false,false,false,false,false,false] (by kernel_rfl) rfl rfl ⟨hx193_0,hx194_0⟩ (fun hHeld => ?_);refine with_tabW slices_insertionSortOrdered_uint64.tab4 slices_insertionSortOrdered_uint64.bits4 (fun HT_ HW_ => ?_)
            generalize wr.drew = w20 at HO_0 HK HB hx193_0 hx194_0 hHeld ⊢
            refine pure_ (i := 0) (N := some 16) (v := ?_) (a' := ?_) #[true,false,false,false,false,false,false,false,false,false,false,false,false,false,false] rfl rfl (any_of HT_.out (by kernel_rfl)) (fun _ _ _ h => h) (Or.inl ⟨by rfl,?_⟩) ?_ ?_
            rotate_left
            ·intro w'
             go_simp
             with_reducible rfl
            rotate_left
            ·simp only [Act.put,List.setIfInBounds_toArray,List.set_cons_zero,List.set_cons_succ,i64_w,i32_w]
             rfl
            refine pure_ (i := 1) (N := some 17) (v := ?_) (a' := ?_) #[true,true,false,false,false,false,false,false,false,false,false,false,false,false,false] rfl rfl (any_of HT_.out (by kernel_rfl)) (fun _ _ _ h => h) (Or.inl ⟨by rfl,?_⟩) ?_ ?_
            rotate_left
            ·intro w'
             go_simp
             with_reducible rfl
            rotate_left
            ·simp only [Act.put,List.setIfInBounds_toArray,List.set_cons_zero,List.set_cons_succ,i64_w,i32_w]
             rfl
            refine pure_ (i := 2) (N := some 18) (v := ?_) (a' := ?_) #[true,true,true,false,false,false,false,false,false,false,false,false,false,false,false] rfl rfl (any_of HT_.out (by kernel_rfl)) (fun _ _ _ h => h) (Or.inl ⟨by rfl,?_⟩) ?_ ?_
            rotate_left
            ·intro w'
             go_simp
             with_reducible rfl
            rotate_left
            ·simp only [Act.put,List.setIfInBounds_toArray,List.set_cons_zero,List.set_cons_succ,i64_w,i32_w]
             rfl
            refine pure_ (i := 3) (N := some 19) (v := ?_) (a' := ?_) #[true,true,true,true,false,false,false,false,false,false,false,false,false,false,false] rfl rfl (any_of HT_.out (by kernel_rfl)) (fun _ _ _ h => h) (Or.inl ⟨by rfl,?_⟩) ?_ ?_
            rotate_left
            ·intro w'
             go_simp
             with_reducible rfl
            rotate_left
            ·simp only [Act.put,List.setIfInBounds_toArray,List.set_cons_zero,List.set_cons_succ,i64_w,i32_w]
             rfl
            refine pure_ (i := 4) (N := some 20) (v := ?_) (a' := ?_) #[true,true,true,true,true,false,false,false,false,false,false,false,false,false,false] rfl rfl (any_of HT_.out (by kernel_rfl)) (fun _ _ _ h => h) (Or.inl ⟨by rfl,?_⟩) ?_ ?_
            rotate_left
            ·intro w'
             go_simp
             with_reducible rfl
            rotate_left
            ·simp only [Act.put,List.setIfInBounds_toArray,List.set_cons_zero,List.set_cons_succ,i64_w,i32_w]
             rfl
            refine pure_ (i := 5) (N := some 21) (v := ?_) (a' := ?_) #[true,true,true,true,true,true,false,false,false,false,false,false,false,false,false] rfl rfl (any_of HT_.out (by kernel_rfl)) (fun _ _ _ h => h) (Or.inl ⟨by rfl,?_⟩) ?_ ?_
            rotate_left
            ·intro w'
             go_simp
             with_reducible rfl
            rotate_left
            ·simp only [Act.put,List.setIfInBounds_toArray,List.set_cons_zero,List.set_cons_succ,i64_w,i32_w]
             rfl
            refine pure_ (i := 6) (N := some 22) (v := ?_) (a' := ?_) #[true,true,true,true,true,true,true,false,false,false,false,false,false,false,false] rfl rfl (any_of HT_.out (by kernel_rfl)) (fun _ _ _ h => h) (Or.inl ⟨by rfl,?_⟩) ?_ ?_
            rotate_left
            ·intro w'
             go_simp
             with_reducible rfl
            rotate_left
            ·simp only [Act.put,List.setIfInBounds_toArray,List.set_cons_zero,List.set_cons_succ,i64_w,i32_w]
             rfl
            refine pure_ (i := 8) (N := some 24) (v := ?_) (a' := ?_) #[true,true,true,true,true,true,true,false,true,false,false,false,false,false,false] rfl rfl (any_of HT_.out (by kernel_rfl)) (fun _ _ _ h => h) (Or.inl ⟨by rfl,?_⟩) ?_ ?_
            rotate_left
            ·intro w'
             go_simp
             with_reducible rfl
            rotate_left
            ·simp only [Act.put,List.setIfInBounds_toArray,List.set_cons_zero,List.set_cons_succ,i64_w,i32_w]
             rfl
            refine pure_ (i := 9) (N := some 25) (v := ?_) (a' := ?_) #[true,true,true,true,true,true,true,false,true,true,false,false,false,false,false] rfl rfl (any_of HT_.out (by kernel_rfl)) (fun _ _ _ h => h) (Or.inl ⟨by rfl,?_⟩) ?_ ?_
            rotate_left
            ·intro w'
             go_simp
             with_reducible rfl
            rotate_left
            ·simp only [Act.put,List.setIfInBounds_toArray,List.set_cons_zero,List.set_cons_succ,i64_w,i32_w]
             rfl
            refine pure_ (i := 10) (N := some 26) (v := ?_) (a' := ?_) #[true,true,true,true,true,true,true,false,true,true,true,false,false,false,false] rfl rfl (any_of HT_.out (by kernel_rfl)) (fun _ _ _ h => h) (Or.inl ⟨by rfl,?_⟩) ?_ ?_
            rotate_left
            ·intro w'
             go_simp
             with_reducible rfl
            rotate_left
            ·simp only [Act.put,List.setIfInBounds_toArray,List.set_cons_zero,List.set_cons_succ,i64_w,i32_w]
             rfl
            refine pure_ (i := 11) (N := some 27) (v := ?_) (a' := ?_) #[true,true,true,true,true,true,true,false,true,true,true,true,false,false,false] rfl rfl (any_of HT_.out (by kernel_rfl)) (fun _ _ _ h => h) (Or.inl ⟨by rfl,?_⟩) ?_ ?_
            rotate_left
            ·intro w'
             go_simp
             with_reducible rfl
            rotate_left
            ·simp only [Act.put,List.setIfInBounds_toArray,List.set_cons_zero,List.set_cons_succ,i64_w,i32_w]
             rfl
            refine take_ (i := 7) (N := some 23) (v := ?_) (a' := ?_) #[true,true,true,true,true,true,true,true,true,true,true,true,false,false,false] rfl rfl (take_ofW HT_.out HW_.out (by kernel_rfl)) (fun _ _ _ h => h) (Or.inl ⟨by rfl,?_⟩) hHeld ?_ ?_
            rotate_left
            ·rintro w' ⟨s0,s1⟩
             go_simp
             with_reducible rfl
            rotate_left
            ·simp only [Act.put,List.setIfInBounds_toArray,List.set_cons_zero,List.set_cons_succ,i64_w,i32_w]
             rfl
            refine take_ (i := 12) (N := some 28) (v := ?_) (a' := ?_) #[true,true,true,true,true,true,true,true,true,true,true,true,true,false,false] rfl rfl (take_ofW HT_.out HW_.out (by kernel_rfl)) (fun _ _ _ h => h) (Or.inl ⟨by rfl,?_⟩) hHeld ?_ ?_
            rotate_left
            ·rintro w' ⟨s0,s1⟩
             go_simp
             with_reducible rfl
            rotate_left
            ·simp only [Act.put,List.setIfInBounds_toArray,List.set_cons_zero,List.set_cons_succ,i64_w,i32_w]
             rfl
            refine one_ (i := 13) (N := some 29) #[true,true,true,true,true,true,true,true,true,true,true,true,true,true,false] rfl rfl (one_of HT_.out (by kernel_rfl)) (by decide) (fun K hK => ?_)
            refine goes_ Try.func125 (by kernel_rfl) rfl #[.int .u64 (rd x0_2 x7_2),.int .u64 (rd x0_2 (ji8))] (by rfl) rfl rfl (by (try simp only [List.map_toArray,List.map_cons,List.map_nil]);first|done|(simp only [hji8];rfl)|rfl|(simp only [List.length_drop,List.length_take];rfl)) ?_
            with_reducible refine (cmp_Less_uint64.calls (rd x0_2 x7_2) (rd x0_2 (ji8)) false _ A11.out).mono ?_
            rintro e w' ⟨rfl,⟨nd,rfl⟩⟩
            refine ⟨_,rfl,?_⟩
            refine hK.out _ _ ⟨hHeld.1,hHeld.2⟩ (fun hHeld => ?_)
            clear hK K
            refine norm_ (a' := ?_) ?_ ?_
            rotate_left
            ·show Act.put _ (some 29) _ = _
             simp only [Act.put,List.setIfInBounds_toArray,List.set_cons_zero,List.set_cons_succ,i64_w,i32_w]
             rfl
            refine pure_ (i := 14) (N := some 30) (v := ?_) (a' := ?_) #[true,true,true,true,true,true,true,true,true,true,true,true,true,true,true] rfl rfl (any_of HT_.out (by kernel_rfl)) (fun _ _ _ h => h) (Or.inl ⟨by rfl,?_⟩) ?_ ?_
            rotate_left
            ·intro w'
             go_simp
             with_reducible rfl
            rotate_left
            ·simp only [Act.put,List.setIfInBounds_toArray,List.set_cons_zero,List.set_cons_succ,i64_w,i32_w]
             rfl
            refine done_ (done_of HT_.out (by kernel_rfl)) ?_
            try go_wp2
            go_roundg k2
            case measure => have := HK1.out;have := HK2.out;omega
            case rel => exact ⟨(x0_2),(wrap64 (x6_1 + 1)),(by first|rfl|(simp;done)|(simp [*];done)),H',⟨by have := HK1.out;have := HK2.out;omega⟩,⟨by (with_reducible repeat (first|apply Kd.R_alloc|apply Kd.R_drewN|apply Kd.R_drew));exact HO_0.out⟩,⟨by repeat (first|(with_reducible first|exact HK.out|apply Kept.alloc|apply Kept.drewN|apply Kept.drew)|exact HK.out)⟩,⟨by repeat (first|(with_reducible first|exact HB.out|apply below_alloc|apply pw_below_drewN|apply below_drew1)|exact HB.out)⟩⟩
          ·rw [if_neg c10] at H
           exact absurd H (by simp)
         ·rw [if_neg c9] at H
          exact absurd H (by simp)
        ·rw [if_neg c7] at H
         exact absurd H (by simp)
       ·rw [if_neg c6] at H
        exact absurd H (by simp)
      ·rw [if_neg c5] at H
       have c5b0 : decide (a1 < x7_2) = false := decide_eq_false c5
       clear c5
       have H' := Aside0.mk H
       clear H
       try go_wp2
       have n0_ := Aside0.mk (Kd.R_drew HO_0.out)
       have n1_ := Aside0.mk (Kept.drew HK.out)
       have n2_ := Aside0.mk (below_drew1 HB.out)
       clear HO_0
       clear HK
       clear HB
       have HO_0 := n0_
       have HK := n1_
       have HB := n2_
       clear n0_ n1_ n2_
       refine start_ (n := 15) (S := fun w' => True) (ds := []) #[false,false,false,false,false,false,false,false,false,false,false,false,false,false,false] (by kernel_rfl) rfl rfl trivial (fun hHeld => ?_);refine with_tabW slices_insertionSortOrdered_uint64.tab4 slices_insertionSortOrdered_uint64.bits4 (fun HT_ HW_ => ?_)
       generalize wr.drew = w22 at HO_0 HK HB hHeld ⊢
       refine pure_ (i := 0) (N := some 16) (v := ?_) (a' := ?_) #[true,false,false,false,false,false,false,false,false,false,false,false,false,false,false] rfl rfl (any_of HT_.out (by kernel_rfl)) (fun _ _ _ h => h) (Or.inl ⟨by rfl,?_⟩) ?_ ?_
       rotate_left
       ·intro w'
        go_simp
        with_reducible rfl
       rotate_left
       ·simp only [Act.put,List.setIfInBounds_toArray,List.set_cons_zero,List.set_cons_succ,i64_w,i32_w]
        rfl
       refine pure_ (i := 1) (N := some 17) (v := ?_) (a' := ?_) #[true,true,false,false,false,false,false,false,false,false,false,false,false,false,false] rfl rfl (any_of HT_.out (by kernel_rfl)) (fun _ _ _ h => h) (Or.inl ⟨by rfl,?_⟩) ?_ ?_
       rotate_left
       ·intro w'
        go_simp
        with_reducible rfl
       rotate_left
       ·simp only [Act.put,List.setIfInBounds_toArray,List.set_cons_zero,List.set_cons_succ,i64_w,i32_w]
        rfl
       refine pure_ (i := 2) (N := some 18) (v := ?_) (a' := ?_) #[true,true,true,false,false,false,false,false,false,false,false,false,false,false,false] rfl rfl (any_of HT_.out (by kernel_rfl)) (fun _ _ _ h => h) (Or.inl ⟨by rfl,?_⟩) ?_ ?_
       rotate_left
       ·intro w'
        go_simp
        with_reducible rfl
       rotate_left
       ·simp only [Act.put,List.setIfInBounds_toArray,List.set_cons_zero,List.set_cons_succ,i64_w,i32_w]
        rfl
       refine pure_ (i := 3) (N := some 19) (v := ?_) (a' := ?_) #[true,true,true,true,false,false,false,false,false,false,false,false,false,false,false] rfl rfl (any_of HT_.out (by kernel_rfl)) (fun _ _ _ h => h) (Or.inl ⟨by rfl,?_⟩) ?_ ?_
       rotate_left
       ·intro w'
        go_simp
        with_reducible rfl
       rotate_left
       ·simp only [Act.put,List.setIfInBounds_toArray,List.set_cons_zero,List.set_cons_succ,i64_w,i32_w]
        rfl
       refine pure_ (i := 4) (N := some 20) (v := undef) (a' := ?_) #[true,true,true,true,true,false,false,false,false,false,false,false,false,false,false] rfl rfl (any_of HT_.out (by kernel_rfl)) (fun _ _ _ h => h) (Or.inr ⟨by rfl,rfl⟩) ?_ ?_
       rotate_left
       ·simp only [Act.put,List.setIfInBounds_toArray,List.set_cons_zero,List.set_cons_succ,i64_w,i32_w]
        rfl
       refine pure_ (i := 5) (N := some 21) (v := undef) (a' := ?_) #[true,true,true,true,true,true,false,false,false,false,false,false,false,false,false] rfl rfl (any_of HT_.out (by kernel_rfl)) (fun _ _ _ h => h) (Or.inr ⟨by rfl,rfl⟩) ?_ ?_
       rotate_left
       ·simp only [Act.put,List.setIfInBounds_toArray,List.set_cons_zero,List.set_cons_succ,i64_w,i32_w]
        rfl
       refine pure_ (i := 6) (N := some 22) (v := undef) (a' := ?_) #[true,true,true,true,true,true,true,false,false,false,false,false,false,false,false] rfl rfl (any_of HT_.out (by kernel_rfl)) (fun _ _ _ h => h) (Or.inr ⟨by rfl,rfl⟩) ?_ ?_
       rotate_left
       ·simp only [Act.put,List.setIfInBounds_toArray,List.set_cons_zero,List.set_cons_succ,i64_w,i32_w]
        rfl
       refine pure_ (i := 7) (N := some 23) (v := undef) (a' := ?_) #[true,true,true,true,true,true,true,true,false,false,false,false,false,false,false] rfl rfl (any_of HT_.out (by kernel_rfl)) (fun _ _ _ h => h) (Or.inr ⟨by rfl,rfl⟩) ?_ ?_
       rotate_left
       ·simp only [Act.put,List.setIfInBounds_toArray,List.set_cons_zero,List.set_cons_succ,i64_w,i32_w]
        rfl
       refine pure_ (i := 8) (N := some 24) (v := undef) (a' := ?_) #[true,true,true,true,true,true,true,true,true,false,false,false,false,false,false] rfl rfl (any_of HT_.out (by kernel_rfl)) (fun _ _ _ h => h) (Or.inr ⟨by rfl,rfl⟩) ?_ ?_
       rotate_left
       ·simp only [Act.put,List.setIfInBounds_toArray,List.set_cons_zero,List.set_cons_succ,i64_w,i32_w]
        rfl
       refine pure_ (i := 9) (N := some 25) (v := undef) (a' := ?_) #[true,true,true,true,true,true,true,true,true,true,false,false,false,false,false] rfl rfl (any_of HT_.out (by kernel_rfl)) (fun _ _ _ h => h) (Or.inr ⟨by rfl,rfl⟩) ?_ ?_
       rotate_left
       ·simp only [Act.put,List.setIfInBounds_toArray,List.set_cons_zero,List.set_cons_succ,i64_w,i32_w]
        rfl
       refine pure_ (i := 10) (N := some 26) (v := undef) (a' := ?_) #[true,true,true,true,true,true,true,true,true,true,true,false,false,false,false] rfl rfl (any_of HT_.out (by kernel_rfl)) (fun _ _ _ h => h) (Or.inr ⟨by rfl,rfl⟩) ?_ ?_
       rotate_left
       ·simp only [Act.put,List.setIfInBounds_toArray,List.set_cons_zero,List.set_cons_succ,i64_w,i32_w]
        rfl
       refine pure_ (i := 11) (N := some 27) (v := undef) (a' := ?_) #[true,true,true,true,true,true,true,true,true,true,true,true,false,false,false] rfl rfl (any_of HT_.out (by kernel_rfl)) (fun _ _ _ h => h) (Or.inr ⟨by rfl,rfl⟩) ?_ ?_
       rotate_left
       ·simp only [Act.put,List.setIfInBounds_toArray,List.set_cons_zero,List.set_cons_succ,i64_w,i32_w]
        rfl
       refine pure_ (i := 12) (N := some 28) (v := undef) (a' := ?_) #[true,true,true,true,true,true,true,true,true,true,true,true,true,false,false] rfl rfl (any_of HT_.out (by kernel_rfl)) (fun _ _ _ h => h) (Or.inr ⟨by rfl,rfl⟩) ?_ ?_
       rotate_left
       ·simp only [Act.put,List.setIfInBounds_toArray,List.set_cons_zero,List.set_cons_succ,i64_w,i32_w]
        rfl
       refine pure_ (i := 13) (N := some 29) (v := undef) (a' := ?_) #[true,true,true,true,true,true,true,true,true,true,true,true,true,true,false] rfl rfl (any_of HT_.out (by kernel_rfl)) (fun _ _ _ h => h) (Or.inr ⟨by rfl,rfl⟩) ?_ ?_
       rotate_left
       ·simp only [Act.put,List.setIfInBounds_toArray,List.set_cons_zero,List.set_cons_succ,i64_w,i32_w]
        rfl
       refine pure_ (i := 14) (N := some 30) (v := ?_) (a' := ?_) #[true,true,true,true,true,true,true,true,true,true,true,true,true,true,true] rfl rfl (any_of HT_.out (by kernel_rfl)) (fun _ _ _ h => h) (Or.inl ⟨by rfl,?_⟩) ?_ ?_
       rotate_left
       ·intro w'
        go_simp
        with_reducible rfl
       rotate_left
       ·simp only [Act.put,List.setIfInBounds_toArray,List.set_cons_zero,List.set_cons_succ,i64_w,i32_w]
        rfl
       refine done_ (done_of HT_.out (by kernel_rfl)) ?_
       try go_wp2
       go_roundg k2
       case measure => have := HK1.out;have := HK2.out;omega
       case rel => exact ⟨(x0_2),(wrap64 (x6_1 + 1)),(by first|rfl|(simp;done)|(simp [*];done)),H',⟨by have := HK1.out;have := HK2.out;omega⟩,⟨by (with_reducible repeat (first|apply Kd.R_alloc|apply Kd.R_drewN|apply Kd.R_drew));exact HO_0.out⟩,⟨by repeat (first|(with_reducible first|exact HK.out|apply Kept.alloc|apply Kept.drewN|apply Kept.drew)|exact HK.out)⟩,⟨by repeat (first|(with_reducible first|exact HB.out|apply below_alloc|apply pw_below_drewN|apply below_drew1)|exact HB.out)⟩⟩
   ·rw [if_neg c4] at H
    have c4b0 : decide (x6_1 < a2) = false := decide_eq_false c4
    clear c4
    obtain rfl := Option.some.inj H
    go_wp2
    first|go_end0|((try simp only [Exit.inBlock,Exit.then]);refine bodyPost_ret (results_none rfl _ _ _) rfl ?_)
    exact ⟨by first|rfl|(simp [errW_none,errW_some] <;> rfl)|(simp [*,errW_none,errW_some] <;> rfl),by (with_reducible repeat (first|apply Kd.R_alloc|apply Kd.R_drewN|apply Kd.R_drew));exact HO_0.out,by repeat (first|(with_reducible first|exact HB.out|apply below_alloc|apply pw_below_drewN|apply below_drew1)|exact HB.out),by repeat (first|(with_reducible first|exact HK.out|apply Kept.alloc|apply Kept.drewN|apply Kept.drew)|exact HK.out)⟩
end Go.Proofs.Ytejeelpnmdfibaa.Pr
end
section
/- Printed by a program of this seat (the kit's printer, with the functions that were proved by hand given to it). What stands here: the functions that the statements reach, as plain functions, and that the Go code computes them. -/
namespace Go.Proofs.Ytejeelpnmdfibaa.Pr
open Go.RowKit Go.Proofs.YtejeelpnmdfibaaW.PrintWords Go.Proofs.YtejeelpnmdfibaaW.PrintLast Go.Proofs.YtejeelpnmdfibaaW.PrintMore
attribute [local go_sem] max2_int min2_int max_two min_two max_three min_three max_four min_four   -- for this text's walks alone
set_option linter.unusedVariables false
set_option linter.unusedSimpArgs false

open Go.Proofs.Ytejeelpnmdfibaa.Hw
-- NOT PRINTED: function 129 (slices_siftDownOrdered_uint64)

-- NOT PRINTED: function 120 (slices_heapSortOrdered_uint64)

-- NOT PRINTED: function 128 (bits_Len32)

/-! ### bits_Len: function 118 -/
def bits_Len.f (k : Nat) (a0 : Int) : Option (Int) := (bits_Len64.f k a0).bind fun t200 => (some t200)
set_option maxHeartbeats 8000000 in
set_option maxRecDepth 100000 in
theorem bits_Len.calls (k : Nat) (a0 : Int) (r : Int) (w : World) (h : bits_Len.f k a0 = some r) :
  Calls Try.prog 118 #[.int .u64 a0] w fun e w' => e = .returned (.int .i64 r) ∧ Drawn0 w w' := by
 have H : ((bits_Len64.f k a0).bind fun t200 => (some t200)) = some r := h
 clear h
 replace H := Option.bind_eq_some_iff.mp H
 obtain ⟨t200,A20,H⟩ := H
 replace H : (some t200) = some r := H
 have A2 := Aside0.mk A20
 clear A20
 obtain rfl := Option.some.inj H
 go_enter Try.func118,Try.ntmps118
 go_wp2_with (first|((with_reducible refine gate_callee (f := 114) rfl ?_);refine goesL_ (some 7) rfl rfl Try.func114 (by kernel_rfl) rfl #[.int .u64 a0] rfl (by (try simp only [List.map_toArray,List.map_cons,List.map_nil]);first|done|rfl|(simp only [List.length_drop,List.length_take];rfl)) ?_;(with_reducible refine (bits_Len64.calls k a0 t200 _ A2.out).mono ?_);rintro e w' ⟨rfl,⟨nd,rfl⟩⟩;refine ⟨_,rfl,?_⟩))
 go_ret
 exact ⟨by first|rfl|(simp;done)|(simp [*];done),by repeat (first|exact Drawn0.refl _|apply Drawn0.step)⟩
-- NOT PRINTED: function 130 (slices_nextPowerOfTwo)

-- NOT PRINTED: function 131 (slices_xorshift_Next)

-- NOT PRINTED: function 121 (slices_breakPatternsOrdered_uint64)

-- NOT PRINTED: function 135 (slices_order2Ordered_uint64)

-- NOT PRINTED: function 133 (slices_medianOrdered_uint64)

-- NOT PRINTED: function 132 (slices_medianAdjacentOrdered_uint64)

-- NOT PRINTED: function 122 (slices_choosePivotOrdered_uint64)

-- NOT PRINTED: function 123 (slices_reverseRangeOrdered_uint64)

-- NOT PRINTED: function 124 (slices_partialInsertionSortOrdered_uint64)

-- NOT PRINTED: function 126 (slices_partitionEqualOrdered_uint64)

-- NOT PRINTED: function 127 (slices_partitionOrdered_uint64)

-- NOT PRINTED: function 117 (slices_pdqsortOrdered_uint64)

-- NOT PRINTED: function 115 (slices_Sort_uint64_uint64)

-- NOT PRINTED: function 116 (slices_Compact_uint64_uint64)

end Go.Proofs.Ytejeelpnmdfibaa.Pr
end
section
/-
  slices.Clone, slices.Sort (at most twelve words) and slices.Compact at uint64, and unlike of package interpolate, proved by hand.
-/
namespace Go.Proofs.Ytejeelpnmdfibaa.Hw
open Go.RowKit Go.Proofs.Ytejeelpnmdfibaa.Pr Go.Proofs.YtejeelpnmdfibaaW.PrintWords Go.Proofs.YtejeelpnmdfibaaW.PrintLast Go.Proofs.YtejeelpnmdfibaaW.PrintMore Go.Proofs.Ytejeelpnmdfibaa.E
set_option linter.unusedVariables false
set_option linter.unusedSimpArgs false

theorem wrapI_id {n : Int} (h0 : -9223372036854775808 ≤ n) (h1 : n < 9223372036854775808) : IntKind.i64.wrap n = n := by rw [IntKind.wrap_i64]; omega
theorem C_none {k : IntKind} {w : World} {xs : List Int} (h : Kd.C (Kd.int k) w none xs.length xs) : xs = [] := by
  rcases xs with _ | ⟨x, xs⟩
  · rfl
  · obtain ⟨ad, e, _⟩ := Kd.at_int h 0 (by omega) (by simp)
    cases e
set_option maxHeartbeats 1000000 in
set_option maxRecDepth 100000 in
theorem clone_u64 (A : Option Addr) (c : Nat) (l : List Int) (w : World) (hr : Kd.C (Kd.int .u64) w A l.length l) (hc : l.length ≤ c) (hl : l.length ≤ 1099511627776) :
    Calls Try.prog 73 #[.slice A l.length c] w fun e w' => ∃ v0_ : Value, e = .returned (v0_) ∧ Kd.R (Kd.int .u64) 22 w' w.heap.size (fun _ => True) v0_ l ∧ Below w.heap.size w w' := by
  have HR := Aside0.mk hr
  clear hr
  rcases A with _ | a
  · obtain rfl := C_none HR.out
    have heq : ∀ W : World, (binOp .eql 26 (.slice none 0 c) (.slice none 0 0)).run Try.prog W = .ok (.bool true) W := fun W => Lib.run_eql_slice_nil W 26 22 none 0 c 0 0 Try.underlying26
    go_enter Try.func73, Try.ntmps73
    go_wp2
    go_ret
    exact ⟨_, rfl, Kd.R_nil _ _ _ _ _, Below.refl _ _⟩
  · have heq : ∀ W : World, (binOp .eql 26 (.slice (some a) l.length c) (.slice none 0 0)).run Try.prog W = .ok (.bool false) W := fun W => Lib.run_eql_slice_nil W 26 22 (some a) l.length c 0 0 Try.underlying26
    go_enter Try.func73, Try.ntmps73
    go_wp2_with (first
      | ((with_reducible refine gate_dst (N := 5) rfl ?_); refine Kd.R_lit (Kd.int .u64) _ 22 ?hg (N := 5) ?hd (xs := ([] : List Int)) (inner := []) (ok := fun _ => True) (okp := fun _ => True) ?hr ?hp (fun _ hk => hk) trivial (Below.refl _ _) (Nat.le_refl _) (by simp) ?_; (case hd => rfl); (case hg => rfl); (case hr => first | (go_simp; done) | (go_simp; rfl)); (case hp => exact (Reps.none _ _)); intro v1 w1 ho1 hb1 hg1 hn1; clear hg1 hn1; have HO1 := Aside0.mk ho1; have HB1 := Aside0.mk hb1; clear ho1 hb1)
      | ((with_reducible refine gate_builtin (b := .append) (xs := #[.tmp 5, .tmp 6]) rfl ?_); at_builtin; refine Kd.R_append_rows (Kd.int .u64) (w0 := w) w.heap.size rfl (.tmp 5) (.tmp 6) 26 22 (.int .u64 0) 8 rfl Try.underlying26 info22 rfl (by decide) (by omega) v1 [] l _ _ _ (fun _ => True) (fun _ => False) rfl rfl HO1.out (Kd.C_below HR.out HB1.out) (fun _ _ h => h) (fun _ h => h.elim) (fun _ _ => trivial) HB1.out (below_size HB1.out) (by simp; omega) ?_; intro v2 w2 ho2 hb2 hg2 ha2; clear hg2 ha2; have HO2 := Aside0.mk ho2; have HB2 := Aside0.mk hb2; clear ho2 hb2))
    go_ret
    exact ⟨_, rfl, by simpa using HO2.out, HB2.out⟩
set_option maxHeartbeats 1000000 in
set_option maxRecDepth 100000 in
/-- At most twelve words: the insertion sort alone. -/
theorem pdq_small (k : Nat) (P0_ : Nat → Prop) (v : Value) (l r : List Int) (L : Int) (hl : l.length ≤ 12) (w0 w : World) (hB : Below w0.heap.size w0 w) (ho : Kd.R (Kd.int .u64) 22 w w0.heap.size P0_ v l)
    (h : slices_insertionSortOrdered_uint64.f k l 0 (l.length : Int) = some r) :
    Calls Try.prog 117 #[v, .int .i64 0, .int .i64 (l.length : Int), .int .i64 L] w fun e w' => e = .returned (.tuple #[]) ∧ Kd.R (Kd.int .u64) 22 w' w0.heap.size (fun k_ => (P0_ k_ ∨ w.heap.size ≤ k_)) v r ∧ Below w0.heap.size w0 w' ∧ Kept w w' (fun k_ => P0_ k_) := by
  have hc := Aside0.mk (slices_insertionSortOrdered_uint64.calls k P0_ v l 0 (l.length : Int) r w0 w hB ho h)
  have hle : decide ((l.length : Int) ≤ 12) = true := decide_eq_true (by omega)
  have hle' : decide (l.length ≤ 12) = true := decide_eq_true hl
  clear hB ho h
  go_enter Try.func117, Try.ntmps117
  go_wp2
  go_loopg [1, 2] 0 (fun kq v1 v2 w' => v1 = .int .i64 0 ∧ v2 = .int .i64 (l.length : Int) ∧ w' = w)
  case atStart => exact ⟨rfl, rfl, rfl⟩
  case round =>
    obtain ⟨rfl, rfl, rfl⟩ := hrel
    go_wp2_with (first | (go_at_call 119; (with_reducible refine hc.out.mono ?_); rintro e w' ⟨rfl, h1, h2, h3⟩; have H1 := Aside0.mk h1; have H2 := Aside0.mk h2; have H3 := Aside0.mk h3; clear h1 h2 h3))
    first | go_end0 | ((try simp only [Exit.inBlock, Exit.then]); refine bodyPost_ret (results_none rfl _ _ _) rfl ?_)
    exact ⟨rfl, H1.out, H2.out, H3.out⟩
set_option maxHeartbeats 1000000 in
set_option maxRecDepth 100000 in
theorem sort_small (k k2 : Nat) (P0_ : Nat → Prop) (A : Option Addr) (c : Nat) (l r : List Int) (L : Int) (hl : l.length ≤ 12) (w0 w : World) (hB : Below w0.heap.size w0 w) (ho : Kd.R (Kd.int .u64) 22 w w0.heap.size P0_ (.slice A l.length c) l)
    (h : slices_insertionSortOrdered_uint64.f k l 0 (l.length : Int) = some r) (hL : bits_Len.f k2 (l.length : Int) = some L) :
    Calls Try.prog 115 #[.slice A l.length c] w fun e w' => e = .returned (.tuple #[]) ∧ Kd.R (Kd.int .u64) 22 w' w0.heap.size (fun _ => True) (.slice A l.length c) r ∧ Below w0.heap.size w0 w' := by
  have HL := Aside0.mk hL
  have HO := Aside0.mk ho
  have HB := Aside0.mk hB
  have HH := Aside0.mk h
  clear hL ho hB h
  go_enter Try.func115, Try.ntmps115
  go_wp2_with (first
    | (go_at_call 118; (refine (bits_Len.calls k2 _ L _ HL.out).mono ?_); rintro e w' ⟨rfl, ⟨nd, rfl⟩⟩; have hc := Aside0.mk (pdq_small k P0_ _ l r L hl w0 (w.drewN nd) (pw_below_drewN HB.out nd) (Kd.R_drewN HO.out nd) HH.out))
    | (go_at_call 117; (with_reducible refine hc.out.mono ?_); rintro e w' ⟨rfl, h1, h2, h3⟩; clear h3; have H1 := Aside0.mk h1; have H2 := Aside0.mk h2; clear h1 h2))
  first | go_end0 | ((try simp only [Exit.inBlock, Exit.then]); refine bodyPost_ret (results_none rfl _ _ _) rfl ?_)
  exact ⟨rfl, Kd.R_mono H1.out (fun _ _ => trivial), H2.out⟩
theorem below_cells {B : Nat} {w W : World} (h : Below B w W) {b : Nat} (hb : B ≤ b) : ∀ (vs : List Value) (o : Nat), Below B w (W.setCells b o vs) := by
  intro vs
  induction vs generalizing W with
  | nil => intro o; exact h
  | cons v vs ih => intro o; exact ih (h.setCell (p := ⟨b, o, none⟩) hb v) _
/-- No two neighbours are equal, up to n. -/
def Diff (l : List Int) (n : Nat) : Prop := ∀ i, i + 1 < n → rd l ((i : Int) + 1) ≠ rd l (i : Int)
set_option maxHeartbeats 1000000 in
set_option maxRecDepth 100000 in
theorem compact_u64 (A : Option Addr) (c : Nat) (l : List Int) (hl : l.length ≤ 1099511627776) (w0 w : World) (hB : Below w0.heap.size w0 w) (ho : Kd.R (Kd.int .u64) 22 w w0.heap.size (fun _ => True) (.slice A l.length c) l) :
    Calls Try.prog 116 #[.slice A l.length c] w fun e w' => Aside0 (∃ A' m c', e = .returned (.slice A' m c') ∧ (m = l.length ↔ Diff l l.length)) ∧ Below w0.heap.size w0 w' := by
  have HO := Aside0.mk ho
  have HB := Aside0.mk hB
  clear ho hB
  by_cases h2 : l.length < 2
  · have hd : decide (l.length < 2) = true := decide_eq_true h2
    have hd' : decide ((l.length : Int) < 2) = true := decide_eq_true (by omega)
    go_enter Try.func116, Try.ntmps116
    go_wp2
    first | go_ret | ((try simp only [Exit.inBlock, Exit.then]); refine bodyPost_ret (results_tmp rfl _ _ rfl) rfl ?_)
    exact ⟨⟨_, _, _, rfl, ⟨fun _ i hi => absurd hi (by omega), fun _ => rfl⟩⟩, HB.out⟩
  · have hd : decide (l.length < 2) = false := decide_eq_false h2
    have hd' : decide ((l.length : Int) < 2) = false := decide_eq_false (by omega)
    obtain ⟨b, q, hv, hb0, how⟩ := R_open HO.out (by omega)
    cases hv
    have HW := Aside0.mk how
    clear how
    have hcl := own_le HW.out
    go_enter Try.func116, Try.ntmps116
    go_wp2
    go_loopg [3] l.length (fun kq v3 w' => ∃ (j nd : Nat), v3 = .int .i64 ((j + 1 : Nat) : Int) ∧ Aside0 (kq + j + 1 = l.length + 1) ∧ Aside0 (j + 1 ≤ l.length ∧ Diff l (j + 1)) ∧ w' = w.drewN nd)
    case atStart => exact ⟨0, 0, rfl, ⟨by omega⟩, ⟨by omega, fun i hi => absurd hi (by omega)⟩, rfl⟩
    case round =>
      obtain ⟨j, nd, rfl, HK, HD, rfl⟩ := hrel
      by_cases hlt : j + 1 < l.length
      · have c1 := (own_at HW.out (j : Int) (by omega) (by omega)).1
        have c2 := (own_at HW.out ((j : Int) + 1) (by omega) (by omega)).1
        rw [Int.toNat_natCast] at c1
        rw [show ((j : Int) + 1).toNat = j + 1 from by omega] at c2
        have t1 : decide ((j : Int) + 1 < (l.length : Int)) = true := decide_eq_true (by omega)
        have p1 : ((0 : Int) ≤ (j : Int)) = True := eq_true (by omega)
        have p2 : ((j : Int) < (l.length : Int)) = True := eq_true (by omega)
        have p3 : ((0 : Int) ≤ (j : Int) + 1) = True := eq_true (by omega)
        have p4 : ((j : Int) + 1 < (l.length : Int)) = True := eq_true (by omega)
        by_cases he : rd l ((j : Int) + 1) = rd l (j : Int)
        · have e1 : (rd l ((j : Int) + 1) == rd l (j : Int)) = true := beq_iff_eq.mpr he
          have HE := Aside0.mk he
          clear he
          go_wp2_with fail
          go_quiet (fail)
          go_wp2
          obtain ⟨N2, hN2⟩ : ∃ y, y = l.length - (j + 1) := ⟨_, rfl⟩
          obtain ⟨C2, hC2⟩ : ∃ y, y = c - (j + 1) := ⟨_, rfl⟩
          rw [← hN2, ← hC2]
          have HN := Aside0.mk hN2
          have HC := Aside0.mk hC2
          clear hN2 hC2 c1 c2 t1 p1 p2 p3 p4 e1
          go_loopg [3, 5] N2 (fun kq v3 v5 w' => ∃ (k m : Nat) (l' : List Int), v3 = .int .i64 (k : Int) ∧ v5 = .int .i64 ((m + 1 : Nat) : Int) ∧ Aside0 (kq + m = N2) ∧ Aside0 (1 ≤ k ∧ k ≤ j + 1 + m ∧ m + 1 ≤ N2) ∧ Aside0 (w'.ownsRow w0.heap.size 22 1 (.slice (some ⟨b, 0, none⟩) l.length c) l.length (nums .u64 l')) ∧ Aside0 (Below w0.heap.size w0 w'))
          case atStart => exact ⟨j + 1, 0, l, rfl, rfl, ⟨by omega⟩, ⟨by omega, by omega, by have := HN.out; omega⟩, ⟨pw_own_drewN HW.out _⟩, ⟨pw_below_drewN HB.out _⟩⟩
          case round =>
            obtain ⟨k, m, l', rfl, rfl, HK2, HM, HW2, HB2⟩ := hrel
            have hk1 := HM.out.1
            have hk2 := HM.out.2.1
            have hm2 := HM.out.2.2
            have hn2 := HN.out
            by_cases hlt2 : m + 1 < N2
            · have c1 := (own_at HW2.out ((j + 1 + (m + 1) : Nat) : Int) (by omega) (by omega)).1
              have c2 := (own_at HW2.out ((j + 1 + m : Nat) : Int) (by omega) (by omega)).1
              obtain ⟨c3, f3⟩ := own_at HW2.out (k : Int) (by omega) (by omega)
              rw [Int.toNat_natCast] at c1 c2 c3 f3
              have t1 : decide ((m : Int) + 1 < (N2 : Int)) = true := decide_eq_true (by omega)
              have t2 : decide (m + 1 < N2) = true := decide_eq_true (by omega)
              have p1 : ((0 : Int) ≤ (m : Int)) = True := eq_true (by omega)
              have p2 : ((m : Int) < (N2 : Int)) = True := eq_true (by omega)
              have p3 : ((0 : Int) ≤ (m : Int) + 1) = True := eq_true (by omega)
              have p4 : ((m : Int) + 1 < (N2 : Int)) = True := eq_true (by omega)
              have p5 : ((0 : Int) ≤ (k : Int)) = True := eq_true (by omega)
              have p6 : ((k : Int) < (l.length : Int)) = True := eq_true (by omega)
              obtain ⟨x, hx⟩ : ∃ x, rd l' ((j + 1 + (m + 1) : Nat) : Int) = x := ⟨_, rfl⟩
              obtain ⟨y, hy⟩ : ∃ y, rd l' ((j + 1 + m : Nat) : Int) = y := ⟨_, rfl⟩
              rw [hx] at c1
              rw [hy] at c2
              have hwm := wrapI_id (n := (m : Int)) (by omega) (by omega)
              have hN2b : N2 ≤ 1099511627776 := by omega
              have hkb : k < l.length := by omega
              clear hx hy hn2
              by_cases he : x = y
              · have e1 : (x != y) = false := bne_eq_false_iff_eq.mpr he
                clear he
                go_wp2_with fail
                go_quiet (fail)
                clear hwm
                go_wp2
                go_roundg (N2 - (m + 1))
                case measure => have := HK2.out; omega
                case rel => exact ⟨k, m + 1, l', rfl, by go_num, ⟨by omega⟩, ⟨by omega, by omega, by omega⟩, ⟨pw_own_drewN HW2.out _⟩, ⟨pw_below_drewN HB2.out _⟩⟩
              · have e1 : (x != y) = true := bne_iff_ne.mpr he
                clear he
                go_wp2_with fail
                go_quiet (fail)
                clear hwm
                go_wp2
                go_roundg (N2 - (m + 1))
                case measure => have := HK2.out; omega
                case rel => exact ⟨k + 1, m + 1, l'.set k x, by go_num, by go_num, ⟨by omega⟩, ⟨by omega, by omega, by omega⟩, ⟨(own_store (pw_own_drewN HW2.out nq) (k : Int) x).1⟩, ⟨(pw_below_drewN HB2.out nq).setCell hb0 _⟩⟩
            · have t1 : decide ((m : Int) + 1 < (N2 : Int)) = false := decide_eq_false (by omega)
              have t2 : decide (m + 1 < N2) = false := decide_eq_false (by omega)
              have hclr : ∀ ty, (Builtin.clear_ #[26] ty #[.slice (some ⟨b, k, none⟩) (l.length - k) (c - k)]).run Try.prog wr = .ok (.tuple #[]) (wr.setCells b k (List.replicate (l.length - k) (.int .u64 0))) := fun ty =>
                Lib.run_clear_slice wr 26 22 ty (.int .u64 0) Try.underlying26 Try.zeroValue22 rfl rfl b k (l.length - k) (c - k) (by omega)
                  (fun j hj => by rw [show k + j = ((k + j : Nat) : Int).toNat from rfl, (own_at HW2.out ((k + j : Nat) : Int) (by omega) (by omega)).1]; rfl)
                  (fun j hj => by rw [show k + j = ((k + j : Nat) : Int).toNat from rfl, (own_at HW2.out ((k + j : Nat) : Int) (by omega) (by omega)).2])
              go_wp2
              first | go_ret | ((try simp only [Exit.inBlock, Exit.then]); refine bodyPost_ret (results_tmp rfl _ _ rfl) rfl ?_)
              refine ⟨⟨_, _, _, rfl, ⟨fun h => by omega, fun h => absurd HE.out (h j (by omega))⟩⟩, ?_⟩
              exact below_cells HB2.out hb0 _ _
        · have e1 : (rd l ((j : Int) + 1) == rd l (j : Int)) = false := beq_eq_false_iff_ne.mpr he
          have HE := Aside0.mk he
          clear he
          go_wp2_with fail
          go_quiet (fail)
          go_wp2
          go_roundg (l.length - (j + 1))
          case measure => have := HK.out; omega
          case rel =>
            refine ⟨j + 1, nd + nq, by go_num, ⟨by omega⟩, ⟨by omega, fun i hi => ?_⟩, by simp [World.drewN_drewN]⟩
            by_cases hij : i = j
            · rw [hij]; exact HE.out
            · exact HD.out.2 i (by omega)
      · have t1 : decide ((j : Int) + 1 < (l.length : Int)) = false := decide_eq_false (by omega)
        go_wp2
        first | go_ret | ((try simp only [Exit.inBlock, Exit.then]); refine bodyPost_ret (results_tmp rfl _ _ rfl) rfl ?_)
        exact ⟨⟨_, _, _, rfl, ⟨fun _ => by rw [show l.length = j + 1 from by have := HD.out.1; omega]; exact HD.out.2, fun _ => rfl⟩⟩, pw_below_drewN HB.out nd⟩
end Go.Proofs.Ytejeelpnmdfibaa.Hw
end
section
/-
  The printed insertion sort sorts, and unlike of package interpolate answers whether all words are distinct.
-/
namespace Go.Proofs.Ytejeelpnmdfibaa.Hw
open Go.RowKit Go.Proofs.Ytejeelpnmdfibaa.Pr Go.Proofs.YtejeelpnmdfibaaW.PrintWords Go.Proofs.YtejeelpnmdfibaaW.PrintLast Go.Proofs.YtejeelpnmdfibaaW.PrintMore Go.Proofs.Ytejeelpnmdfibaa.E
set_option linter.unusedVariables false
set_option linter.unusedSimpArgs false

theorem less_eq (a b : Int) : cmp_Less_uint64.f a b = some (decide (a < b)) := by
  unfold cmp_Less_uint64.f cmp_isNaN_uint64.f
  simp
theorem w64 {n : Int} (h0 : -9223372036854775808 ≤ n) (h1 : n < 9223372036854775808) : wrap64 n = n := by unfold wrap64; omega
theorem rd_nat (l : List Int) (i : Nat) : rd l (i : Int) = l.getD i 0 := by unfold rd; rw [Int.toNat_natCast]
theorem getD_in (l : List Int) (i : Nat) (h : i < l.length) : l.getD i 0 = l[i] := by rw [List.getD_eq_getElem?_getD, List.getElem?_eq_getElem h]; rfl
theorem getD_set (l : List Int) (i j : Nat) (v : Int) (h : j < l.length) : (l.set i v).getD j 0 = if i = j then v else l.getD j 0 := by
  rw [getD_in _ _ (by simpa using h), List.getElem_set, getD_in _ _ h]
/-- All pairs up to i in order, but those that end at j. -/
def Ord (l : List Int) (i j : Nat) : Prop := ∀ p q, p < q → q ≤ i → q ≠ j → l.getD p 0 ≤ l.getD q 0
theorem ins_ends : ∀ (m i j : Nat) (x : List Int), x.length ≤ 1099511627776 → i < x.length → j ≤ i → Ord x i j → (x.length - i) * (x.length + 2) + j < m →
    ∃ k r, slices_insertionSortOrdered_uint64.l1 k x 0 (x.length : Int) (i : Int) (j : Int) = some r ∧ r.Perm x ∧ (∀ p q, p < q → q < r.length → r.getD p 0 ≤ r.getD q 0) := by
  intro m
  induction m with
  | zero => intro i j x _ _ _ _ h; omega
  | succ m ih =>
    intro i j x hx hi hj ho hm
    -- what follows once position i is in order
    have next : (∀ p q, p < q → q ≤ i → x.getD p 0 ≤ x.getD q 0) → ∃ k r, slices_insertionSortOrdered_uint64.l0 k x 0 (x.length : Int) (wrap64 ((i : Int) + 1)) = some r ∧ r.Perm x ∧ (∀ p q, p < q → q < r.length → r.getD p 0 ≤ r.getD q 0) := by
      intro hs
      rw [w64 (by omega) (by omega)]
      by_cases hlt : i + 1 < x.length
      · obtain ⟨k, r, h1, h2, h3⟩ := ih (i + 1) (i + 1) x hx hlt (Nat.le_refl _) (fun p q hpq hq hne => hs p q hpq (by omega)) (by
          have : (x.length - (i + 1)) * (x.length + 2) + (x.length + 2) = (x.length - i) * (x.length + 2) := by
            rw [← Nat.succ_mul]; congr 1; omega
          omega)
        refine ⟨k + 1, r, ?_, h2, h3⟩
        simp only [slices_insertionSortOrdered_uint64.l0]
        rw [if_pos (by omega), show (i : Int) + 1 = ((i + 1 : Nat) : Int) from by omega]
        exact h1
      · refine ⟨1, x, ?_, List.Perm.refl _, fun p q hpq hq => hs p q hpq (by omega)⟩
        simp only [slices_insertionSortOrdered_uint64.l0]
        rw [if_neg (by omega)]
    by_cases hj0 : j = 0
    · subst hj0
      obtain ⟨k, r, h1, h2, h3⟩ := next (fun p q hpq hq => ho p q hpq hq (by omega))
      refine ⟨k + 1, r, ?_, h2, h3⟩
      simp only [slices_insertionSortOrdered_uint64.l1]
      rw [if_neg (by omega)]
      exact h1
    · obtain ⟨t, rfl⟩ : ∃ t, j = t + 1 := ⟨j - 1, by omega⟩
      have e1 : wrap64 (((t + 1 : Nat) : Int) - 1) = (t : Int) := by rw [w64 (by omega) (by omega)]; omega
      by_cases hlt : x.getD (t + 1) 0 < x.getD t 0
      · have hl2 : ((x.set (t + 1) (x.getD t 0)).set t (x.getD (t + 1) 0)).length = x.length := by simp
        have hg : ∀ p, p < x.length → ((x.set (t + 1) (x.getD t 0)).set t (x.getD (t + 1) 0)).getD p 0 = if p = t then x.getD (t + 1) 0 else if p = t + 1 then x.getD t 0 else x.getD p 0 := by
          intro p hp
          rw [getD_set _ _ _ _ (by simpa using hp), getD_set _ _ _ _ hp]
          by_cases a : t = p
          · subst a; rw [if_pos rfl, if_pos rfl]
          · have a' : ¬ p = t := fun h => a h.symm
            rw [if_neg a, if_neg a']
            by_cases b : t + 1 = p
            · subst b; rw [if_pos rfl]
            · have b' : ¬ p = t + 1 := fun h => b h.symm
              rw [if_neg b, if_neg b']
        obtain ⟨k, r, h1, h2, h3⟩ := ih i t ((x.set (t + 1) (x.getD t 0)).set t (x.getD (t + 1) 0)) (by rw [hl2]; exact hx) (by rw [hl2]; exact hi) (by omega) (by
          intro p q hpq hq hne
          rw [hg p (by omega), hg q (by omega)]
          have o1 := ho t (t + 1)
          by_cases a : p = t
          · rw [if_pos a]
            rw [if_neg hne]
            by_cases b : q = t + 1
            · rw [if_pos b]; omega
            · rw [if_neg b]; exact ho (t + 1) q (by omega) hq b
          · rw [if_neg a, if_neg hne]
            by_cases a2 : p = t + 1
            · rw [if_pos a2, if_neg (by omega)]; exact ho t q (by omega) hq (by omega)
            · rw [if_neg a2]
              by_cases b : q = t + 1
              · rw [if_pos b]; exact ho p t (by omega) (by omega) (by omega)
              · rw [if_neg b]; exact ho p q hpq hq b) (by rw [hl2]; omega)
        rw [hl2] at h1
        refine ⟨k + 1, r, ?_, h2.trans ?_, h3⟩
        · simp only [slices_insertionSortOrdered_uint64.l1]
          rw [e1, if_pos (by omega), if_pos (by omega), if_pos (by omega), if_pos (by omega), if_pos (by omega), less_eq, rd_nat, rd_nat]
          simp only [Option.bind_some]
          rw [if_pos (by simpa using hlt), Int.toNat_natCast, Int.toNat_natCast]
          exact h1
        · rw [getD_in _ _ (by omega : t < x.length), getD_in _ _ (by omega : t + 1 < x.length)]
          exact List.set_set_perm (by omega) (by omega)
      · obtain ⟨k, r, h1, h2, h3⟩ := next (fun p q hpq hq => by
          by_cases a : q = t + 1
          · subst a
            by_cases b : p = t
            · subst b; omega
            · have := ho p t (by omega) (by omega) (by omega); omega
          · exact ho p q hpq hq a)
        refine ⟨k + 1, r, ?_, h2, h3⟩
        simp only [slices_insertionSortOrdered_uint64.l1]
        rw [e1, if_pos (by omega), if_pos (by omega), if_pos (by omega), if_pos (by omega), if_pos (by omega), less_eq, rd_nat, rd_nat]
        simp only [Option.bind_some]
        rw [if_neg (by simpa using hlt)]
        exact h1
theorem ins_sorts (x : List Int) (hx : x.length ≤ 1099511627776) : ∃ k r, slices_insertionSortOrdered_uint64.f k x 0 (x.length : Int) = some r ∧ r.Perm x ∧ (∀ p q, p < q → q < r.length → r.getD p 0 ≤ r.getD q 0) := by
  unfold slices_insertionSortOrdered_uint64.f
  rw [w64 (by omega) (by omega)]
  by_cases h : 1 < x.length
  · obtain ⟨k, r, h1, h2, h3⟩ := ins_ends _ 1 1 x hx h (Nat.le_refl _) (fun p q hpq hq hne => by omega) (Nat.lt_succ_self _)
    refine ⟨k + 1, r, ?_, h2, h3⟩
    simp only [slices_insertionSortOrdered_uint64.l0]
    rw [if_pos (by omega)]
    exact h1
  · refine ⟨1, x, ?_, List.Perm.refl _, fun p q hpq hq => by omega⟩
    simp only [slices_insertionSortOrdered_uint64.l0]
    rw [if_neg (by omega)]
theorem diff_iff {r : List Int} (hs : ∀ p q, p < q → q < r.length → r.getD p 0 ≤ r.getD q 0) : Diff r r.length ↔ r.Nodup := by
  constructor
  · intro h
    rw [List.nodup_iff_pairwise_ne, List.pairwise_iff_getElem]
    intro i j hi hj hij
    have h1 := h i (by omega)
    rw [show (i : Int) + 1 = ((i + 1 : Nat) : Int) from by omega, rd_nat, rd_nat] at h1
    have h2 := hs i (i + 1) (by omega) (by omega)
    rw [← getD_in _ _ hi, ← getD_in _ _ hj]
    by_cases e : j = i + 1
    · subst e; omega
    · have := hs (i + 1) j (by omega) hj; omega
  · intro h i hi
    rw [List.nodup_iff_pairwise_ne, List.pairwise_iff_getElem] at h
    rw [show (i : Int) + 1 = ((i + 1 : Nat) : Int) from by omega, rd_nat, rd_nat, getD_in _ _ hi, getD_in _ _ (by omega : i < r.length)]
    exact fun e => h i (i + 1) (by omega) hi (by omega) e.symm
set_option maxHeartbeats 1000000 in
set_option maxRecDepth 100000 in
/-- unlike, for at most twelve words. -/
theorem unlike_calls (A : Option Addr) (c : Nat) (l : List Int) (w : World) (hr : Kd.C (Kd.int .u64) w A l.length l) (hc : l.length ≤ c) (hl : l.length ≤ 12) :
    Calls Try.prog 109 #[.slice A l.length c] w fun e w' => e = .returned (.bool (decide l.Nodup)) ∧ Below w.heap.size w w' := by
  obtain ⟨k, r, h1, h2, h3⟩ := ins_sorts l (by omega)
  have hlen : bits_Len.f 3 (l.length : Int) = some (([0, 1, 2, 2, 3, 3, 3, 3, 4, 4, 4, 4, 4] : List Int).getD l.length 0) := by
    have h : l.length = 0 ∨ l.length = 1 ∨ l.length = 2 ∨ l.length = 3 ∨ l.length = 4 ∨ l.length = 5 ∨ l.length = 6 ∨ l.length = 7 ∨ l.length = 8 ∨ l.length = 9 ∨ l.length = 10 ∨ l.length = 11 ∨ l.length = 12 := by omega
    rcases h with h | h | h | h | h | h | h | h | h | h | h | h | h <;> rw [h] <;> exact (by first | rfl | decide +kernel)
  have hrl : r.length = l.length := h2.length_eq
  have HD := Aside0.mk ((diff_iff h3).trans h2.nodup_iff)
  have HR := Aside0.mk hrl
  have HL := Aside0.mk hlen
  have H1 := Aside0.mk h1
  have hcl := Aside0.mk (clone_u64 A c l w hr hc (by omega))
  clear h1 h2 h3 hr hrl hlen
  obtain ⟨b, hb⟩ : ∃ b : Bool, b = decide l.Nodup := ⟨_, rfl⟩
  rw [← hb]
  have HBb := Aside0.mk hb
  clear hb
  go_enter Try.func109, Try.ntmps109
  go_wp2_with (first
    | (go_at_call 73; (with_reducible refine hcl.out.mono ?_); rintro e w1 ⟨v0, rfl, ho, hb1⟩; obtain ⟨A1, c1, rfl⟩ := Kd.R_slice ho; have hso := Aside0.mk (sort_small k 3 (fun _ => True) A1 c1 l r _ hl w w1 hb1 ho H1.out HL.out); clear ho hb1)
    | (go_at_call 115; (with_reducible refine hso.out.mono ?_); rintro e w2 ⟨rfl, ho, hb2⟩; rw [← HR.out] at ho; have hco := Aside0.mk (compact_u64 A1 c1 r (by rw [HR.out]; omega) w w2 hb2 ho); rw [HR.out] at hco; clear ho hb2)
    | (go_at_call 116; (with_reducible refine hco.out.mono ?_); rintro e w3 ⟨hex, hb3⟩; obtain ⟨⟨A3, m, c3, rfl, hm⟩⟩ := hex; have HM := Aside0.mk hm; have HB3 := Aside0.mk hb3; clear hm hb3))
  go_ret
  refine ⟨?_, HB3.out⟩
  have e : ((m : Int) == (l.length : Int)) = b := by
    rw [HBb.out, Bool.eq_iff_iff, beq_iff_eq, decide_eq_true_iff, ← HD.out, HR.out, ← HM.out]
    omega
  rw [e]
  rfl
end Go.Proofs.Ytejeelpnmdfibaa.Hw
end
section
/-
  The closure of LagrangeWeights and others with it, proved by hand.
-/
namespace Go.Proofs.Ytejeelpnmdfibaa.Hw
open Go.RowKit Go.Proofs.Ytejeelpnmdfibaa.Pr Go.Proofs.YtejeelpnmdfibaaW.PrintWords Go.Proofs.YtejeelpnmdfibaaW.PrintLast Go.Proofs.YtejeelpnmdfibaaW.PrintMore Go.Proofs.Ytejeelpnmdfibaa.E
set_option linter.unusedVariables false
set_option linter.unusedSimpArgs false

theorem rd_res' {p : Int} {l : List Int} (hl : ∀ x ∈ l, Res p x) (i : Nat) (hi : i < l.length) : Res p (rd l i) := by
  have e : rd l i = l[i] := by unfold rd; rw [Int.toNat_natCast, List.getD_eq_getElem?_getD, List.getElem?_eq_getElem hi]; rfl
  rw [e]; exact hl _ (List.getElem_mem _)
theorem mul_ne' {p : Int} (hp : Supp p) {a b : Int} (ha : Res p a) (h0 : a ≠ 0) (hb : Res p b) (h1 : b ≠ 0) : a * b % p ≠ 0 := by
  intro h
  have e := inv_spec hp ha h0
  have e2 : invp p a * (a * b) % p = b := by
    rw [← Int.mul_assoc, Int.mul_comm (invp p a), mulm (a' := 1) (b' := b) (by rw [e]; have := hp.bd; exact (Int.emod_eq_of_lt (by omega) (by omega)).symm) rfl, Int.one_mul, hb.eq]
  rw [mulm (a := invp p a) (b := a * b) (b' := 0) rfl (by rw [h]; simp), Int.mul_zero, Int.zero_emod] at e2
  exact h1 e2.symm
theorem sub_ne' {p : Int} (hp : Supp p) {a b : Int} (ha : Res p a) (hb : Res p b) (h : a ≠ b) : (a - b) % p ≠ 0 := by
  intro h0
  have h2 := Int.emod_emod_of_dvd
  have hd : p ∣ a - b := Int.dvd_of_emod_eq_zero h0
  obtain ⟨k, hk⟩ := hd
  obtain ⟨a0, a1⟩ := ha
  obtain ⟨b0, b1⟩ := hb
  have hk0 : k = 0 := by
    rcases Int.lt_trichotomy k 0 with h3 | h3 | h3
    · have : p * k ≤ p * (-1) := Int.mul_le_mul_of_nonneg_left (by omega) (by omega)
      omega
    · exact h3
    · have : p * 1 ≤ p * k := Int.mul_le_mul_of_nonneg_left (by omega) (by omega)
      omega
  subst hk0
  simp at hk
  omega
/-- A captured variable of one number. -/
def Box (w : World) (b : Nat) (x : Int) : Prop := w.heap[b]? = some (.cells #[.int .u64 x] 22 (0, 0))
theorem Box.cell {w : World} {b : Nat} {x : Int} (h : Box w b x) : w.cell? ⟨b, 0, none⟩ = some (.int .u64 x) := blk_cell h 0
theorem Box.frozen {w : World} {b : Nat} {x : Int} (h : Box w b x) : w.frozen? ⟨b, 0, none⟩ = false := blk_frozen h 0
theorem Box.drewN {w : World} {b : Nat} {x : Int} (h : Box w b x) (n : Nat) : Box (w.drewN n) b x := h
theorem Box.far {w : World} {b : Nat} {x : Int} (h : Box w b x) {g : Nat} (hne : b ≠ g) (v : Value) : Box (w.setCell ⟨g, 0, none⟩ v) b x := blk_far (p := ⟨g, 0, none⟩) h hne v
theorem Box.put {w : World} {b : Nat} {x : Int} (h : Box w b x) (y : Int) : Box (w.setCell ⟨b, 0, none⟩ (.int .u64 y)) b y := blk_put h 0 _ rfl
/-- The words of the list but the one at an index, among the first n. -/
def othersN (xs : List Int) (but : Nat) : Nat → List Int
  | 0 => []
  | n + 1 => if n = but then othersN xs but n else othersN xs but n ++ [rd xs n]
end Go.Proofs.Ytejeelpnmdfibaa.Hw
end
section
/-
  LagrangeWeights of package interpolate, proved by hand: what it computes, in plain lists.
-/
namespace Go.Proofs.Ytejeelpnmdfibaa.Hw
open Go.RowKit Go.Proofs.Ytejeelpnmdfibaa.Pr Go.Proofs.YtejeelpnmdfibaaW.PrintWords Go.Proofs.YtejeelpnmdfibaaW.PrintLast Go.Proofs.YtejeelpnmdfibaaW.PrintMore Go.Proofs.Ytejeelpnmdfibaa.E
set_option linter.unusedVariables false
set_option linter.unusedSimpArgs false

/-- One factor of numerator and denominator. -/
def lagStep (p a x : Int) (s : Int × Int) (o : Int) : Int × Int := (s.1 * ((a - o) % p) % p, s.2 * ((x - o) % p) % p)
def lagS (p a : Int) (xs : List Int) (i : Nat) : Int × Int := (othersN xs i xs.length).foldl (lagStep p a (rd xs i)) (1, 1)
theorem lag_fold {p : Int} (hp : Supp p) {a x : Int} (hx : Res p x) : ∀ (l : List Int) (s : Int × Int), (∀ o ∈ l, Res p o) → Res p s.1 → Res p s.2 →
    Res p (l.foldl (lagStep p a x) s).1 ∧ Res p (l.foldl (lagStep p a x) s).2 ∧ ((∀ o ∈ l, x ≠ o) → s.2 ≠ 0 → (l.foldl (lagStep p a x) s).2 ≠ 0)
  | [], s, _, h1, h2 => ⟨h1, h2, fun _ h => h⟩
  | o :: l, s, hl, h1, h2 => by
    have ih := lag_fold hp (a := a) hx l (lagStep p a x s o) (fun y hy => hl y (List.mem_cons_of_mem _ hy)) (Res.mod hp _) (Res.mod hp _)
    refine ⟨ih.1, ih.2.1, fun hne h0 => ih.2.2 (fun y hy => hne y (List.mem_cons_of_mem _ hy)) ?_⟩
    exact mul_ne' hp h2 h0 (Res.mod hp _) (sub_ne' hp hx (hl o (by simp)) (hne o (by simp)))
theorem othersN_mem {xs : List Int} {i : Nat} : ∀ {n : Nat} {o : Int}, o ∈ othersN xs i n → ∃ j, j < n ∧ j ≠ i ∧ o = rd xs j
  | 0, o, h => by cases h
  | n + 1, o, h => by
    unfold othersN at h
    split at h
    · obtain ⟨j, h1, h2⟩ := othersN_mem h; exact ⟨j, by omega, h2⟩
    · rcases List.mem_append.1 h with h | h
      · obtain ⟨j, h1, h2⟩ := othersN_mem h; exact ⟨j, by omega, h2⟩
      · exact ⟨n, by omega, by assumption, by simpa using h⟩
theorem lagS_ok {p : Int} (hp : Supp p) {a : Int} {xs : List Int} (hx : ∀ x ∈ xs, Res p x) (hn : xs.Nodup) (i : Nat) (hi : i < xs.length) : Res p (lagS p a xs i).1 ∧ Res p (lagS p a xs i).2 ∧ (lagS p a xs i).2 ≠ 0 := by
  have hb := hp.bd
  have h := lag_fold hp (a := a) (rd_res' hx i hi) (othersN xs i xs.length) (1, 1) (fun o ho => by
    obtain ⟨j, h1, _, rfl⟩ := othersN_mem ho; exact rd_res' hx j h1) ⟨by omega, by omega⟩ ⟨by omega, by omega⟩
  refine ⟨h.1, h.2.1, h.2.2 (fun o ho => ?_) (by decide)⟩
  obtain ⟨j, h1, h2, rfl⟩ := othersN_mem ho
  rw [rd_nat, rd_nat, getD_in _ _ hi, getD_in _ _ h1]
  intro e
  rw [List.nodup_iff_pairwise_ne, List.pairwise_iff_getElem] at hn
  rcases Nat.lt_trichotomy i j with h3 | h3 | h3
  · exact hn i j hi h1 h3 e
  · exact h2 h3.symm
  · exact hn j i h1 hi h3 e.symm
/-- What holds while the closure runs over the other words: wr is the world at the round's start. -/
structure LagI (wr : World) (bp ba : Nat) (p a x : Int) (s : Int × Int) (w : World) : Prop where
  hp : Box w bp p
  hn : Box w (wr.heap.size + 1) s.1
  ha : Box w ba a
  hd : Box w (wr.heap.size + 1 + 1) s.2
  hx : Box w wr.heap.size x
  r1 : Res p s.1
  r2 : Res p s.2
  below : Below wr.heap.size wr w
end Go.Proofs.Ytejeelpnmdfibaa.Hw
end
section
/- Printed by a program of this seat (the kit's printer, with the functions that were proved by hand given to it). What stands here: the functions that the statements reach, as plain functions, and that the Go code computes them. -/
namespace Go.Proofs.Ytejeelpnmdfibaa.Pr
open Go.RowKit Go.Proofs.YtejeelpnmdfibaaW.PrintWords Go.Proofs.YtejeelpnmdfibaaW.PrintLast Go.Proofs.YtejeelpnmdfibaaW.PrintMore
attribute [local go_sem] max2_int min2_int max_two min_two max_three min_three max_four min_four   -- for this text's walks alone
set_option linter.unusedVariables false
set_option linter.unusedSimpArgs false

open Go.Proofs.Ytejeelpnmdfibaa.Hw
/-! ### poly_Eval: function 37 -/
end Go.Proofs.Ytejeelpnmdfibaa.Pr
end
section
/-
  Degree, Trim, Scale and Eval of package poly: what the printed functions answer.
-/
namespace Go.Proofs.Ytejeelpnmdfibaa.E
open Go.RowKit Go.Proofs.Ytejeelpnmdfibaa.Pr Go.Proofs.Ytejeelpnmdfibaa.Hw Go.Proofs.YtejeelpnmdfibaaW.PrintWords Go.Proofs.YtejeelpnmdfibaaW.PrintLast Go.Proofs.YtejeelpnmdfibaaW.PrintMore
set_option linter.unusedVariables false
set_option linter.unusedSimpArgs false

theorem w64' {n : Int} (h0 : -9223372036854775808 ≤ n) (h1 : n < 9223372036854775808) : wrap64 n = n := by unfold wrap64; omega
theorem rd_nat' (l : List Int) (i : Nat) : rd l (i : Int) = l.getD i 0 := by unfold rd; rw [Int.toNat_natCast]
/-- Without trailing zeros. -/
def trimL : List Int → List Int
  | [] => []
  | x :: l => match trimL l with
    | [] => if x = 0 then [] else [x]
    | y :: t => x :: y :: t
theorem trimL_cons (x : Int) (l : List Int) : trimL (x :: l) = if trimL l = [] then (if x = 0 then [] else [x]) else x :: trimL l := by
  rw [trimL]
  split
  · rename_i h; rw [h, if_pos rfl]
  · rename_i y t h; rw [h, if_neg (by simp)]
theorem trimL_length (l : List Int) : (trimL l).length ≤ l.length := by
  induction l with
  | nil => simp [trimL]
  | cons x l ih =>
    rw [trimL_cons]
    split
    · split <;> simp
    · simp only [List.length_cons]; omega
theorem trimL_take (l : List Int) : l.take (trimL l).length = trimL l := by
  induction l with
  | nil => simp [trimL]
  | cons x l ih =>
    rw [trimL_cons]
    split
    · split <;> simp
    · simp only [List.length_cons, List.take_succ_cons, ih]
theorem trimL_getD (l : List Int) (i : Nat) : (trimL l).getD i 0 = l.getD i 0 := by
  induction l generalizing i with
  | nil => simp [trimL]
  | cons x l ih =>
    rw [trimL_cons]
    split
    · rename_i h
      have hz : ∀ j, l.getD j 0 = 0 := fun j => by rw [← ih j, h]; simp
      split
      · rename_i h0
        cases i with
        | zero => simp [h0]
        | succ i => rw [List.getD_cons_succ, hz]; simp
      · cases i with
        | zero => simp
        | succ i => rw [List.getD_cons_succ, List.getD_cons_succ, hz]; simp
    · cases i with
      | zero => simp
      | succ i => rw [List.getD_cons_succ, List.getD_cons_succ]; exact ih i
/-- The last word is not zero. -/
theorem trimL_last (l : List Int) (h : trimL l ≠ []) : (trimL l).getD ((trimL l).length - 1) 0 ≠ 0 := by
  induction l with
  | nil => exact absurd rfl h
  | cons x l ih =>
    rw [trimL_cons] at h ⊢
    by_cases hl : trimL l = []
    · rw [if_pos hl] at h ⊢
      by_cases h0 : x = 0
      · rw [if_pos h0] at h; exact absurd rfl h
      · rw [if_neg h0]; simpa using h0
    · rw [if_neg hl]
      have hp : 0 < (trimL l).length := List.length_pos_iff.2 hl
      rw [List.length_cons, show (trimL l).length + 1 - 1 = (trimL l).length - 1 + 1 from by omega, List.getD_cons_succ]
      exact ih hl
theorem trimL_nil_iff (l : List Int) : trimL l = [] ↔ ∀ i, l.getD i 0 = 0 := by
  constructor
  · intro h i; rw [← trimL_getD, h]; simp
  · intro h
    refine Classical.byContradiction fun hn => trimL_last l hn ?_
    rw [trimL_getD]; exact h _
theorem trimL_mem {l : List Int} {x : Int} (h : x ∈ trimL l) : x ∈ l := by
  rw [← trimL_take] at h; exact List.mem_of_mem_take h
/-- One list: two trimmed lists that agree everywhere. -/
theorem trimL_ext {l m : List Int} (h : ∀ i, l.getD i 0 = m.getD i 0) : trimL l = trimL m := by
  have hlen : ∀ {a b : List Int}, (∀ i, a.getD i 0 = b.getD i 0) → (trimL a).length ≤ (trimL b).length := by
    intro a b hab
    by_cases ha : trimL a = []
    · rw [ha]; simp
    · have h1 := trimL_last a ha
      have hp : 0 < (trimL a).length := List.length_pos_iff.2 ha
      rw [trimL_getD, hab, ← trimL_getD b] at h1
      refine Nat.le_of_not_lt fun hlt => h1 ?_
      rw [List.getD_eq_getElem?_getD, List.getElem?_eq_none (by omega)]; rfl
  refine List.ext_getElem? fun i => ?_
  have hl : (trimL l).length = (trimL m).length := Nat.le_antisymm (hlen h) (hlen fun i => (h i).symm)
  by_cases hi : i < (trimL l).length
  · have e1 := trimL_getD l i
    have e2 := trimL_getD m i
    rw [List.getD_eq_getElem?_getD, List.getElem?_eq_getElem hi] at e1
    rw [List.getD_eq_getElem?_getD, List.getElem?_eq_getElem (by omega)] at e2
    rw [List.getElem?_eq_getElem hi, List.getElem?_eq_getElem (by omega)]
    simp only [Option.getD_some] at e1 e2
    rw [e1, e2, h i]
  · rw [List.getElem?_eq_none (by omega), List.getElem?_eq_none (by omega)]
theorem trimL_trimL (l : List Int) : trimL (trimL l) = trimL l := trimL_ext (trimL_getD l)
theorem degree_l0 (l : List Int) (hl : l.length ≤ 1099511627776) : ∀ (m : Nat), m ≤ l.length → (∀ j, m ≤ j → l.getD j 0 = 0) → Ev (fun k => poly_Degree.l0 k l ((m : Int) - 1)) (((trimL l).length : Int) - 1) := by
  intro m
  induction m with
  | zero =>
    intro _ hz
    have : trimL l = [] := (trimL_nil_iff l).2 fun i => hz i (Nat.zero_le _)
    refine Ev.of (fun k => (poly_Degree.mono_l k) _ _) (k := 1) ?_
    simp only [poly_Degree.l0]
    rw [if_neg (by omega), this]
    rfl
  | succ m ih =>
    intro hm hz
    by_cases h0 : l.getD m 0 = 0
    · refine Ev.step (fun k => ?_) (ih (by omega) (fun j hj => by
        by_cases e : j = m
        · rw [e]; exact h0
        · exact hz j (by omega)))
      simp only [poly_Degree.l0]
      rw [show ((m + 1 : Nat) : Int) - 1 = (m : Int) from by omega, if_pos (by omega), if_pos (by omega), if_pos (by omega), rd_nat', if_pos h0, w64' (by omega) (by omega)]
    · refine Ev.of (fun k => (poly_Degree.mono_l k) _ _) (k := 1) ?_
      simp only [poly_Degree.l0]
      rw [show ((m + 1 : Nat) : Int) - 1 = (m : Int) from by omega, if_pos (by omega), if_pos (by omega), if_pos (by omega), rd_nat', if_neg h0]
      have h1 : (trimL l).length = m + 1 := by
        have hne : trimL l ≠ [] := fun e => h0 ((trimL_nil_iff l).1 e m)
        have hp : 0 < (trimL l).length := List.length_pos_iff.2 hne
        have h2 := trimL_last l hne
        rw [trimL_getD] at h2
        have h3 : (trimL l).length - 1 < m + 1 := Nat.lt_of_not_le fun h => h2 (hz _ h)
        have h4 : m < (trimL l).length := Nat.lt_of_not_le fun h => h0 (by rw [← trimL_getD, List.getD_eq_getElem?_getD, List.getElem?_eq_none h]; rfl)
        omega
      rw [h1, show ((m + 1 : Nat) : Int) - 1 = (m : Int) from by omega]
theorem degree_ev (l : List Int) (hl : l.length ≤ 1099511627776) : Ev (fun k => poly_Degree.f k l) (((trimL l).length : Int) - 1) := by
  refine (degree_l0 l hl l.length (Nat.le_refl _) (fun j hj => by rw [List.getD_eq_getElem?_getD, List.getElem?_eq_none hj]; rfl)).congr fun k => ?_
  unfold poly_Degree.f
  rw [w64' (by omega) (by omega)]
theorem trim_ev (l : List Int) (hl : l.length ≤ 1099511627776) : Ev (fun k => poly_Trim.f k l) (trimL l) := by
  have h1 := trimL_length l
  refine Ev.bind (degree_ev l hl) ((Ev.now (trimL l)).congr fun k => ?_)
  have e : wrap64 ((((trimL l).length : Int) - 1) + 1) = ((trimL l).length : Int) := by rw [w64' (by omega) (by omega)]; omega
  rw [e, if_pos (by omega), if_pos (by omega), if_pos (by simp; omega), Int.toNat_natCast, trimL_take]
  rfl
theorem set_next (l : List Int) (f : Int → Int) (i : Nat) (hi : i < l.length) :
    ((l.take i).map f ++ List.replicate (l.length - i) 0).set i (f (l.getD i 0)) = (l.take (i + 1)).map f ++ List.replicate (l.length - (i + 1)) 0 := by
  have h1 : (l.take i).length = i := by rw [List.length_take]; omega
  rw [List.set_append_right _ _ (by simp; omega), List.length_map, h1, Nat.sub_self, show l.length - i = (l.length - (i + 1)) + 1 from by omega, List.replicate_succ, List.set_cons_zero]
  rw [List.take_succ_eq_append_getElem hi, List.map_append, List.append_assoc, List.getD_eq_getElem?_getD, List.getElem?_eq_getElem hi]
  rfl
theorem scale_l0 {p : Int} (hp : Supp p) {kk : Int} (hk : Res p kk) (l : List Int) (hl : ∀ x ∈ l, Res p x) (hll : l.length ≤ 1099511627776) : ∀ (d i : Nat), i + d = l.length →
    Ev (fun k => poly_Scale.l0 k p kk ((l.take i).map (fun v => kk * v % p) ++ List.replicate (l.length - i) 0) l (l.length : Int) (i : Int)) (trimL (l.map fun v => kk * v % p)) := by
  intro d
  induction d with
  | zero =>
    intro i hi
    have : i = l.length := by omega
    subst this
    rw [List.take_length, Nat.sub_self, List.replicate_zero, List.append_nil]
    refine Ev.step (f := fun k => (poly_Trim.f k (l.map fun v => kk * v % p)).bind fun t132 => some t132) (fun k => ?_) (Ev.bind (trim_ev _ (by rw [List.length_map]; exact hll)) (Ev.now _))
    simp only [poly_Scale.l0]
    rw [if_neg (by omega)]
  | succ d ih =>
    intro i hi
    have hm := mul_ev hp hk (show Res p (l.getD i 0) from by rw [List.getD_eq_getElem?_getD, List.getElem?_eq_getElem (by omega)]; exact hl _ (List.getElem_mem _))
    have h1 := ih (i + 1) (by omega)
    rw [← set_next l (fun v => kk * v % p) i (by omega)] at h1
    refine Ev.step (f := fun k => (field_Mul.f k p kk (l.getD i 0)).bind fun t => poly_Scale.l0 k p kk (((l.take i).map (fun v => kk * v % p) ++ List.replicate (l.length - i) 0).set i t) l (l.length : Int) ((i + 1 : Nat) : Int)) (fun k => ?_) (Ev.bind hm h1)
    simp only [poly_Scale.l0]
    have hlen : ((l.take i).map (fun v => kk * v % p) ++ List.replicate (l.length - i) (0 : Int)).length = l.length := by simp; omega
    rw [if_pos (by omega), if_pos (by omega), if_pos (by omega), rd_nat', w64' (by omega) (by omega), hlen]
    refine congrArg _ (funext fun t => ?_)
    rw [if_pos (by omega), Int.toNat_natCast]
    rfl
theorem scale_ev {p : Int} (hp : Supp p) {kk : Int} (hk : Res p kk) (l : List Int) (hl : ∀ x ∈ l, Res p x) (hll : l.length ≤ 1099511627776) : Ev (fun k => poly_Scale.f k p kk l) (trimL (l.map fun v => kk * v % p)) := by
  have h := scale_l0 hp hk l hl hll l.length 0 (by omega)
  refine h.congr fun k => ?_
  unfold poly_Scale.f
  rw [if_pos (by omega), Int.toNat_natCast, if_pos (by omega)]
  simp
/-- Horner's scheme, in numbers. -/
def evI (p x : Int) : List Int → Int
  | [] => 0
  | c :: f => (evI p x f * x % p + c) % p
theorem evI_res {p : Int} (hp : Supp p) (x : Int) : ∀ l, Res p (evI p x l)
  | [] => by have := hp.bd; exact ⟨Int.le_refl 0, by show (0 : Int) < p; omega⟩
  | c :: l => Res.mod hp _
end Go.Proofs.Ytejeelpnmdfibaa.E
end
section
/-
  The closure of Polynomial, and others with it, proved by hand.
-/
namespace Go.Proofs.Ytejeelpnmdfibaa.Hw
open Go.RowKit Go.Proofs.Ytejeelpnmdfibaa.Pr Go.Proofs.YtejeelpnmdfibaaW.PrintWords Go.Proofs.YtejeelpnmdfibaaW.PrintLast Go.Proofs.YtejeelpnmdfibaaW.PrintMore Go.Proofs.Ytejeelpnmdfibaa.E
set_option linter.unusedVariables false
set_option linter.unusedSimpArgs false

/-- What holds while the closure runs: wr is the world at the round's start. -/
structure PolI (wr : World) (bp bf bd bx : Nat) (p X Y : Int) (s : List Int × Int) (w : World) : Prop where
  hp : Box w bp p
  hf : ∃ A c, w.heap[bf]? = some (.cells #[.slice A s.1.length c] 26 (0, 0)) ∧ Kd.R (Kd.int .u64) 22 w wr.heap.size (fun k => k ≠ bd) (.slice A s.1.length c) s.1
  hd : Box w bd s.2
  hx : w.heap[bx]? = some (.cells #[.int .u64 X, .int .u64 Y] 97 (0, 0))
  r1 : ∀ x ∈ s.1, Res p x
  r2 : Res p s.2
  below : Below wr.heap.size wr w
def polStep (p X : Int) (s : List Int × Int) (o : Int) : List Int × Int := (trimL (mulsL p s.1 [-o % p, 1] s.1.length), s.2 * ((X - o) % p) % p)
theorem cell_alloc_of {w : World} {n : Nat} {a : Addr} {v : Value} (h : w.cell? a = some v) (o : Obj) : ((w.drewN n).alloc o).cell? a = some v := (World.cell?_alloc_lt _ _ _ (World.block_lt_of_cell? w _ h)).trans h
theorem pol_keep {w w5 : World} {m b : Nat} {o o2 : Obj} (hb : Below (w.heap.size + 1) ((w.drewN m).alloc o) w5) (h : w.heap[b]? = some o2) : w5.heap[b]? = some o2 := by
  have hlt := blk_lt h
  rw [hb.block b (by omega)]
  exact blk_alloc (blk_drewN h m) o
set_option maxHeartbeats 2000000 in
set_option maxRecDepth 100000 in
theorem polc_calls {p : Int} (hp : Supp p) {X Y o : Int} (hX : Res p X) (ho : Res p o) (bp bf bd bx : Nat) (wr w : World) (s : List Int × Int) (h : PolI wr bp bf bd bx p X Y s w) (hl : s.1.length ≤ 1000000)
    (nf : wr.heap.size ≤ bf) (ndd : wr.heap.size ≤ bd) (n1 : bp ≠ bf) (n2 : bp ≠ bd) (n3 : bf ≠ bd) (n4 : bx ≠ bf) (n5 : bx ≠ bd) :
    Calls Try.prog 111 #[.int .u64 o, .pointer (some ⟨bp, 0, none⟩), .pointer (some ⟨bf, 0, none⟩), .pointer (some ⟨bd, 0, none⟩), .pointer (some ⟨bx, 0, none⟩)] w
      fun e w' => e = .returned (.tuple #[]) ∧ Aside0 (PolI wr bp bf bd bx p X Y (polStep p X s o) w') := by
  obtain ⟨f, d⟩ := s
  simp only at hl
  obtain ⟨A, c, hf, hO⟩ := h.hf
  simp only at hf hO
  have c1 := h.hp.cell
  have c2 : w.cell? ⟨bf, 0, none⟩ = some (.slice A f.length c) := blk_cell hf 0
  have hneg := Aside0.mk (neg_eq hp ho)
  have HI := Aside0.mk h
  have HF := Aside0.mk hf
  have HO := Aside0.mk hO
  obtain ⟨o', ho'⟩ : ∃ y, y = -o % p := ⟨_, rfl⟩
  rw [← ho'] at hneg
  have HO' := Aside0.mk ho'
  have hor : Res p o' := by rw [HO'.out]; exact Res.mod hp _
  have hb := hp.bd
  have hl2 : ∀ x ∈ [o', 1], Res p x := by
    intro x hx
    simp only [List.mem_cons, List.not_mem_nil, or_false] at hx
    rcases hx with rfl | rfl
    · exact hor
    · exact ⟨by omega, by omega⟩
  obtain ⟨kt, hkt⟩ := (trim_ev (mulsL p f [o', 1] f.length) (by have := mulsL_length p f [o', 1] f.length; simp at this; omega)).rounds
  have hmul : ∀ m : Nat, Calls Try.prog 52 #[.int .u64 p, .slice A f.length c, .slice (some ⟨w.heap.size, 0, none⟩) 2 2] ((w.drewN m).alloc (.cells #[.int .u64 o', .int .u64 1] 22)) fun e w' => ∃ v0_ : Value, e = .returned v0_ ∧ Kd.R (Kd.int .u64) 22 w' (w.heap.size + 1) (fun _ => True) v0_ (trimL (mulsL p f [o', 1] f.length)) ∧ Below (w.heap.size + 1) ((w.drewN m).alloc (.cells #[.int .u64 o', .int .u64 1] 22)) w' := by
    intro m
    obtain ⟨A', c', e1, hc1, hC1⟩ := Kd.R_reads hO
    cases e1
    have hC2 := Kd.C_alloc (Kd.C_drewN hC1 m) (.cells #[.int .u64 o', .int .u64 1] 22)
    obtain ⟨A2, c2, e2, hc2, hC3⟩ := Kd.R_reads (R_made (ok := fun _ => True) (own_lit (w.drewN m) w.heap.size 22 .u64 [o', 1] (Nat.le_refl _) (by simp)) (fun _ _ => trivial))
    cases e2
    have hm := poly_Mul.walks p hp A c f (some ⟨w.heap.size, 0, none⟩) 2 [o', 1] h.r1 hl2 (by omega) (by simp) ((w.drewN m).alloc (.cells #[.int .u64 o', .int .u64 1] 22)) hC2 hc1 hC3 (by simp) _ kt hkt
    rw [show ((w.drewN m).alloc (.cells #[.int .u64 o', .int .u64 1] 22)).heap.size = w.heap.size + 1 from Array.size_push _] at hm
    exact hm
  have HMul := Aside0.mk hmul
  clear h hf hO ho' hl2 hkt hmul
  go_enter Try.func111, Try.ntmps111
  go_wp2
  refine start_ (n := 8) (S := (fun w' => w'.cell? ⟨bp, 0, none⟩ = some (.int .u64 p) ∧ w'.cell? ⟨bf, 0, none⟩ = some (.slice A f.length c))) (ds := [7]) #[false, false, false, false, false, false, false, false] (by kernel_rfl) rfl rfl ⟨c1, c2⟩ (fun hHeld => ?_)
  refine take_ (i := 0) (N := some 6) (v := ?_) (a' := ?_) #[true, false, false, false, false, false, false, false] rfl rfl (by kernel_rfl) (fun _ _ _ h => h) (Or.inl ⟨by rfl, ?_⟩) hHeld ?_ ?_
  rotate_left
  · rintro w' ⟨s0, s1⟩
    go_simp
    with_reducible rfl
  rotate_left
  · simp only [Act.put, List.setIfInBounds_toArray, List.set_cons_zero, List.set_cons_succ, i64_w, i32_w]
    rfl
  refine take_ (i := 1) (N := some 7) (v := ?_) (a' := ?_) #[true, true, false, false, false, false, false, false] rfl rfl (by kernel_rfl) (fun _ _ _ h => h) (Or.inl ⟨by rfl, ?_⟩) hHeld ?_ ?_
  rotate_left
  · rintro w' ⟨s0, s1⟩
    go_simp
    with_reducible rfl
  rotate_left
  · simp only [Act.put, List.setIfInBounds_toArray, List.set_cons_zero, List.set_cons_succ, i64_w, i32_w]
    rfl
  refine take_ (i := 2) (N := some 8) (v := ?_) (a' := ?_) #[true, true, true, false, false, false, false, false] rfl rfl (by kernel_rfl) (fun _ _ _ h => h) (Or.inl ⟨by rfl, ?_⟩) hHeld ?_ ?_
  rotate_left
  · rintro w' ⟨s0, s1⟩
    go_simp
    with_reducible rfl
  rotate_left
  · simp only [Act.put, List.setIfInBounds_toArray, List.set_cons_zero, List.set_cons_succ, i64_w, i32_w]
    rfl
  refine pure_ (i := 3) (N := some 9) (v := ?_) (a' := ?_) #[true, true, true, true, false, false, false, false] rfl rfl (by kernel_rfl) (fun _ _ _ h => h) (Or.inl ⟨by rfl, ?_⟩) ?_ ?_
  rotate_left
  · intro w'
    go_simp
    with_reducible rfl
  rotate_left
  · simp only [Act.put, List.setIfInBounds_toArray, List.set_cons_zero, List.set_cons_succ, i64_w, i32_w]
    rfl
  refine one_ (i := 4) (N := some 10) #[true, true, true, true, true, false, false, false] rfl rfl (by kernel_rfl) (by decide) (fun K hK => ?_)
  refine goes_ Try.func103 (by kernel_rfl) rfl #[.int .u64 p, .int .u64 o] (by rfl) rfl rfl (by (try simp only [List.map_toArray, List.map_cons, List.map_nil]); first | done | rfl) ?_
  refine (field_Neg.calls p o o' _ hneg.out).mono ?_
  rintro e w' ⟨rfl, ⟨nd, rfl⟩⟩
  refine ⟨_, rfl, ?_⟩
  refine hK.out _ _ ⟨c1, c2⟩ (fun hHeld => ?_)
  clear hK K
  refine norm_ (a' := ?_) ?_ ?_
  rotate_left
  · show Act.put _ (some 10) _ = _
    simp only [Act.put, List.setIfInBounds_toArray, List.set_cons_zero, List.set_cons_succ, i64_w, i32_w]
    rfl
  refine one_ (i := 5) (N := some 11) #[true, true, true, true, true, true, false, false] rfl rfl (by kernel_rfl) (by decide) (fun K hK => ?_)
  refine value_ (v := .slice (some ⟨w.heap.size, 0, none⟩) 2 2) (w1 := (w.drewN (1 + nd)).alloc (.cells #[.int .u64 o', .int .u64 1] 22)) (by rfl) rfl (by go_simp) ?_
  refine hK.out _ _ ⟨cell_alloc_of c1 _, cell_alloc_of c2 _⟩ (fun hHeld => ?_)
  clear hK K
  refine norm_ (a' := ?_) ?_ ?_
  rotate_left
  · show Act.put _ (some 11) _ = _
    simp only [Act.put, List.setIfInBounds_toArray, List.set_cons_zero, List.set_cons_succ, i64_w, i32_w]
    rfl
  refine one_ (i := 6) (N := some 12) #[true, true, true, true, true, true, true, false] rfl rfl (by kernel_rfl) (by decide) (fun K hK => ?_)
  refine goes_ Try.func52 (by kernel_rfl) rfl #[.int .u64 p, .slice A f.length c, .slice (some ⟨w.heap.size, 0, none⟩) 2 2] (by rfl) rfl rfl (by (try simp only [List.map_toArray, List.map_cons, List.map_nil]); first | done | rfl) ?_
  refine (HMul.out (1 + nd)).mono ?_
  rintro e w5 ⟨v0, rfl, hv0, hb0⟩
  obtain ⟨A5, q5, rfl⟩ := Kd.R_slice hv0
  have hbf5 := Aside0.mk (pol_keep hb0 HF.out)
  have hc5 := blk_cell hbf5.out 0
  simp only [List.getElem?_toArray, List.getElem?_cons_zero] at hc5
  have hf5 := blk_frozen hbf5.out 0
  have HBp5 := Aside0.mk (show Box w5 bp p from pol_keep hb0 HI.out.hp)
  have HBd5 := Aside0.mk (show Box w5 bd d from pol_keep hb0 HI.out.hd)
  have HBx5 := Aside0.mk (pol_keep hb0 HI.out.hx)
  have hsz := Aside0.mk (show w.heap.size + 1 ≤ w5.heap.size from by have := hb0.size; rwa [show ((w.drewN (1 + nd)).alloc (Obj.cells #[Value.int IntKind.u64 o', Value.int IntKind.u64 1] 22)).heap.size = w.heap.size + 1 from Array.size_push _] at this)
  have HBel5 := Aside0.mk (show Below wr.heap.size wr w5 from (below_then (below_alloc (pw_below_drewN HI.out.below (1 + nd)) (Obj.cells #[Value.int IntKind.u64 o', Value.int IntKind.u64 1] 22)) (below_size (below_alloc (pw_below_drewN HI.out.below (1 + nd)) _)) (by rw [show ((w.drewN (1 + nd)).alloc (Obj.cells #[Value.int IntKind.u64 o', Value.int IntKind.u64 1] 22)).heap.size = w.heap.size + 1 from Array.size_push _]; exact hb0)))
  have hv5 := Aside0.mk hv0
  clear hv0 hb0
  refine ⟨_, rfl, ?_⟩
  refine hK.out _ _ ⟨HBp5.out.cell, hc5⟩ (fun hHeld => ?_)
  clear hK K
  refine norm_ (a' := ?_) ?_ ?_
  rotate_left
  · show Act.put _ (some 12) _ = _
    simp only [Act.put, List.setIfInBounds_toArray, List.set_cons_zero, List.set_cons_succ, i64_w, i32_w]
    rfl
  refine last_ (i := 7) (N := none) #[true, true, true, true, true, true, true, true] rfl rfl (by kernel_rfl) (by decide) (fun K hK => ?_)
  refine skip_ (w1 := ?_) (by rfl) rfl ?_ ?_
  rotate_left
  · go_simp
    rfl
  refine hK.out _ _ ?_
  clear hK K
  refine done_ (by kernel_rfl) ?_
  try go_wp2
  clear hc5 hf5 c1 c2
  obtain ⟨f', hf'⟩ : ∃ y, y = trimL (mulsL p f [o', 1] f.length) := ⟨_, rfl⟩
  rw [← hf'] at hv5 ⊢
  have HF' := Aside0.mk hf'
  clear hf'
  obtain ⟨W, hW⟩ : ∃ W, W = w5.setCell ⟨bf, 0, none⟩ (.slice A5 f'.length q5) := ⟨_, rfl⟩
  rw [← hW]
  have d1 : W.cell? ⟨bp, 0, none⟩ = some (.int .u64 p) := by rw [hW]; exact (HBp5.out.far n1 _).cell
  have d2 : W.cell? ⟨bd, 0, none⟩ = some (.int .u64 d) := by rw [hW]; exact (HBd5.out.far (Ne.symm n3) _).cell
  have d3 : W.cell? ⟨bx, 0, none⟩ = some (.int .u64 X) := by rw [hW]; exact blk_cell (blk_far (p := ⟨bf, 0, none⟩) HBx5.out n4 _) 0
  have g2 : W.frozen? ⟨bd, 0, none⟩ = false := by rw [hW]; exact (HBd5.out.far (Ne.symm n3) _).frozen
  have HW := Aside0.mk hW
  obtain ⟨k3, hk3⟩ := (sub_ev hp hX ho).rounds
  obtain ⟨k4, hk4⟩ := (mul_ev hp HI.out.r2 (Res.mod hp (X - o))).rounds
  have HK3 := Aside0.mk hk3
  have HK4 := Aside0.mk hk4
  clear hW hk3 hk4
  refine wp_region_quiet_tail_drawn 8 (by kernel_rfl) (by kernel_rfl) ?_
  simp only [List.take_succ_cons, List.take_zero, List.drop_succ_cons, List.drop_zero]
  repeat (quiet_step (first | (go_at_call 85; refine Calls.quiet_of ((field_Sub.calls k3 _ _ _ ((X - o) % p) _ HK3.out).mono fun e w' h => ⟨h.1, h.2.out⟩)) | (go_at_call 70; refine Calls.quiet_of ((field_Mul.calls k4 _ _ _ (d * ((X - o) % p) % p) _ HK4.out).mono fun e w' h => ⟨h.1, h.2.out⟩))))
  refine wpQuiet_nil ?_
  rintro _ ⟨nr, rfl⟩
  go_wp2
  go_end0
  have ld := blk_lt HI.out.hd
  have lf := blk_lt HF.out
  refine ⟨rfl, ⟨?_⟩⟩
  rw [HW.out]
  refine ⟨?_, ⟨A5, q5, ?_, ?_⟩, ?_, ?_, ?_, Res.mod hp _, ?_⟩
  · exact ((HBp5.out.far n1 _).drewN nr).far n2 _
  · show _ = some (Obj.cells #[Value.slice A5 (trimL (mulsL p f [-o % p, 1] f.length)).length q5] _ _)
    rw [← HO'.out, ← HF'.out]
    exact blk_far (p := ⟨bd, 0, none⟩) (blk_drewN (blk_put hbf5.out 0 _ rfl) nr) n3 _
  · show Kd.R _ _ _ _ _ (Value.slice A5 (trimL (mulsL p f [-o % p, 1] f.length)).length q5) (trimL (mulsL p f [-o % p, 1] f.length))
    rw [← HO'.out, ← HF'.out]
    have hb5 : wr.heap.size ≤ w.heap.size + 1 := by have := HI.out.below.size; omega
    have hR := Kd.R_lower (Kd.R_mono (Kd.R_bound hv5.out) (ok' := fun k => k ≠ bd ∧ k ≠ bf) (fun k hk => ⟨by have := hk.2.1; omega, by have := hk.2.1; omega⟩)) hb5
    exact Kd.R_mono (Kd.R_far (Kd.R_drewN (Kd.R_far hR (p := ⟨bf, 0, none⟩) (fun k hk => hk.2) _) nr) (p := ⟨bd, 0, none⟩) (fun k hk => hk.1) _) (fun k hk => hk.1)
  · exact ((HBd5.out.far (Ne.symm n3) _).drewN nr).put _
  · exact blk_far (p := ⟨bd, 0, none⟩) (blk_drewN (blk_far (p := ⟨bf, 0, none⟩) HBx5.out n4 _) nr) n5 _
  · exact fun x hx => mulsL_res hp _ _ _ x (trimL_mem hx)
  · exact Below.setCell (pw_below_drewN (Below.setCell HBel5.out (p := ⟨bf, 0, none⟩) nf _) nr) (p := ⟨bd, 0, none⟩) ndd _
set_option maxHeartbeats 1000000 in
theorem others_pol {σ : Type} (I : σ → World → Prop) (step : σ → Int → σ) (bp bf bd bx : Nat) (A : Option Addr) (c : Nat) (xs : List Int) (but : Nat) (hb : but < 1099511627776) (hl : xs.length ≤ 1099511627776)
    (hread : ∀ s w, I s w → Kd.C (Kd.int .u64) w A xs.length xs)
    (s : σ) (hcall : ∀ w i, i < xs.length → i ≠ but → I ((othersN xs but i).foldl step s) w → Calls Try.prog 111 #[.int .u64 (rd xs i), .pointer (some ⟨bp, 0, none⟩), .pointer (some ⟨bf, 0, none⟩), .pointer (some ⟨bd, 0, none⟩), .pointer (some ⟨bx, 0, none⟩)] w fun e w' => e = .returned (.tuple #[]) ∧ Aside0 (I (step ((othersN xs but i).foldl step s) (rd xs i)) w'))
    (w : World) (hI : I s w) :
    Calls Try.prog 110 #[.slice A xs.length c, .int .i64 (but : Int), .func (.func 111) #[] #[.pointer (some ⟨bp, 0, none⟩), .pointer (some ⟨bf, 0, none⟩), .pointer (some ⟨bd, 0, none⟩), .pointer (some ⟨bx, 0, none⟩)]] w
      fun e w' => e = .returned (.tuple #[]) ∧ Aside0 (I ((othersN xs but xs.length).foldl step s) w') := by
  have HI := Aside0.mk hI
  have HR := Aside0.mk hread
  have HC := Aside0.mk hcall
  clear hI hread hcall
  go_enter Try.func110, Try.ntmps110
  go_wp2
  go_loopg [10] xs.length (fun kq v10 w' => ∃ (n : Nat), v10 = .int .i64 n ∧ Aside0 (kq + n = xs.length) ∧ Aside0 (I ((othersN xs but n).foldl step s) w'))
  case atStart => exact ⟨0, rfl, ⟨rfl⟩, HI⟩
  case round =>
    obtain ⟨n, rfl, HK, HS⟩ := hrel
    clear HI
    by_cases hlt : n < xs.length
    · have p1 : ((0 : Int) ≤ (n : Int)) = True := eq_true (by omega)
      have q1 : ((n : Int) < (xs.length : Int)) = True := eq_true (by omega)
      obtain ⟨ad, e1, hx⟩ := Kd.at_int (HR.out _ _ HS.out) (n : Int) (by omega) (by omega)
      cases e1
      rw [Int.toNat_natCast] at hx
      by_cases hnb : n = but
      · have t1 : ((n : Int) != (but : Int)) = false := by rw [hnb]; simp
        have HNB := Aside0.mk hnb
        clear hnb
        go_wp2
        go_roundg (xs.length - (n + 1))
        case measure => have := HK.out; omega
        case rel =>
          refine ⟨n + 1, by go_num, ⟨by omega⟩, ⟨?_⟩⟩
          rw [othersN, if_pos HNB.out]; exact HS.out
      · have t1 : ((n : Int) != (but : Int)) = true := by rw [bne_iff_ne]; omega
        have hc := Aside0.mk (HC.out _ n hlt hnb HS.out)
        go_wp2_with (first | (go_at_call 111; (with_reducible refine hc.out.mono ?_); rintro e w' ⟨rfl, HS2⟩))
        go_roundg (xs.length - (n + 1))
        case measure => have := HK.out; omega
        case rel =>
          refine ⟨n + 1, by go_num, ⟨by omega⟩, ⟨?_⟩⟩
          rw [othersN, if_neg hnb, List.foldl_append]; exact HS2.out
    · have hd : decide ((n : Int) < (xs.length : Int)) = false := decide_eq_false (by omega)
      have hn : n = xs.length := by have := HK.out; omega
      subst hn
      go_wp2
      go_end0
      exact ⟨rfl, HS⟩
end Go.Proofs.Ytejeelpnmdfibaa.Hw
end
