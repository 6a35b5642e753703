-- Cut for this claim by a program (wip/prune.py) out of the texts that its bench laid or wrote
import Derived.Test.YteipfcflijdapaaDoorNat2
import Derived.Test.YteipfcflijdapaaDoorFWideA
import Derived.Test.YteipfcflijdapaaDoorDigs
import Derived.Shelf.Spec.TrailingZeros
section
namespace Go.Proofs.YteipfcflijdapaaDoor.N
open Go Go.RowKit Go.Proofs.YteipfcflijdapaaDoor.F Go.Proofs.YteipfcflijdapaaDoorW.PrintWords Go.Proofs.YteipfcflijdapaaDoorW.PrintLast Go.Proofs.YteipfcflijdapaaDoorW.PrintMore Go.Proofs.YteipfcflijdapaaDoor.Digs
set_option linter.unusedSimpArgs false
set_option linter.unusedVariables false
def Wd (x : Int) : Prop := 0 ≤ x ∧ x < 18446744073709551616
theorem wraps_u64 (n : Int) (h₀ : 0 ≤ n) (h₁ : n < 2 ^ 64) : IntKind.u64.wrap n = n := u64w h₀ (by simpa using h₁)
theorem and32 {x : Int} (h : Wd x) : Go.bits .and .u64 x 4294967295 = x % 4294967296 := by
  have := bits_mask .u64 64 (by decide) wraps_u64 32 (by decide) x h.1 (by simpa using h.2)
  simpa using this
theorem or32 {x y : Int} (hx : 0 ≤ x) (hx1 : x < 18446744073709551616) (hm : x % 4294967296 = 0) (hy : 0 ≤ y) (hy1 : y < 4294967296) : Go.bits .or .u64 x y = x + y :=
  bits_join .u64 64 (by decide) wraps_u64 32 x y hx (by simpa using hm) (by simpa using hx1) hy (by simpa using hy1) (by simp; omega)
theorem and1 {x : Int} (h : Wd x) : Go.bits .and .u64 x 1 = x % 2 := by
  have := bits_mask .u64 64 (by decide) wraps_u64 1 (by decide) x h.1 (by simpa using h.2)
  simpa using this
theorem or1 {x y : Int} (hx : 0 ≤ x) (hx1 : x < 18446744073709551616) (hm : x % 2 = 0) (hy : 0 ≤ y) (hy1 : y < 2) : Go.bits .or .u64 x y = x + y :=
  bits_join .u64 64 (by decide) wraps_u64 1 x y hx (by simpa using hm) (by simpa using hx1) hy (by simpa using hy1) (by simp; omega)
theorem prod32 {x y : Int} (hx : 0 ≤ x) (hx1 : x < 4294967296) (hy : 0 ≤ y) (hy1 : y < 4294967296) : 0 ≤ x * y ∧ x * y ≤ 18446744065119617025 := by
  refine ⟨Int.mul_nonneg hx hy, ?_⟩
  have h1 : x * y ≤ 4294967295 * y := Int.mul_le_mul_of_nonneg_right (by omega) hy
  omega
theorem full_arith (p1 p2 p3 p4 : Int) (_h1 : 0 ≤ p1 ∧ p1 ≤ 18446744065119617025) (h2 : 0 ≤ p2 ∧ p2 ≤ 18446744065119617025) (h3 : 0 ≤ p3 ∧ p3 ≤ 18446744065119617025) (h4 : 0 ≤ p4 ∧ p4 ≤ 18446744065119617025)
    (hb : p1 * 18446744073709551616 + (p2 + p3) * 4294967296 + p4 < 340282366920938463463374607431768211456) :
    p1 + (p2 + p4 / 4294967296) / 4294967296 + ((p2 + p4 / 4294967296) % 4294967296 + p3) / 4294967296 = (p1 * 18446744073709551616 + (p2 + p3) * 4294967296 + p4) / 18446744073709551616 ∧
    ((p2 + p4 / 4294967296) % 4294967296 + p3) * 4294967296 % 18446744073709551616 + p4 % 4294967296 = (p1 * 18446744073709551616 + (p2 + p3) * 4294967296 + p4) % 18446744073709551616 ∧
    p2 + p4 / 4294967296 < 18446744073709551616 ∧ (p2 + p4 / 4294967296) % 4294967296 + p3 < 18446744073709551616 ∧ p1 + (p2 + p4 / 4294967296) / 4294967296 + ((p2 + p4 / 4294967296) % 4294967296 + p3) / 4294967296 < 18446744073709551616 := by
  omega
theorem full_eq {a b : Int} (ha : Wd a) (hb : Wd b) : wide_Full.f a b = some (a * b / 18446744073709551616, a * b % 18446744073709551616) := by
  obtain ⟨ha0, ha1⟩ := ha
  obtain ⟨hb0, hb1⟩ := hb
  have ha2 : a = a / 4294967296 * 4294967296 + a % 4294967296 := by omega
  have hb2 : b = b / 4294967296 * 4294967296 + b % 4294967296 := by omega
  have hx : 0 ≤ a / 4294967296 ∧ a / 4294967296 < 4294967296 := by omega
  have hy : 0 ≤ a % 4294967296 ∧ a % 4294967296 < 4294967296 := by omega
  have hu : 0 ≤ b / 4294967296 ∧ b / 4294967296 < 4294967296 := by omega
  have hv : 0 ≤ b % 4294967296 ∧ b % 4294967296 < 4294967296 := by omega
  have hab : a * b < 340282366920938463463374607431768211456 := by
    have h1 : a * b ≤ 18446744073709551615 * b := Int.mul_le_mul_of_nonneg_right (by omega) hb0
    omega
  unfold wide_Full.f
  rw [and32 ⟨ha0, ha1⟩, and32 ⟨hb0, hb1⟩]
  generalize a / 4294967296 = x at *
  generalize a % 4294967296 = y at *
  generalize b / 4294967296 = u at *
  generalize b % 4294967296 = v at *
  have e : a * b = x * u * 18446744073709551616 + (x * v + y * u) * 4294967296 + y * v := by rw [ha2, hb2]; grind
  rw [e] at hab ⊢
  have q1 := prod32 hx.1 hx.2 hu.1 hu.2
  have q2 := prod32 hx.1 hx.2 hv.1 hv.2
  have q3 := prod32 hy.1 hy.2 hu.1 hu.2
  have q4 := prod32 hy.1 hy.2 hv.1 hv.2
  generalize x * u = p1 at *
  generalize x * v = p2 at *
  generalize y * u = p3 at *
  generalize y * v = p4 at *
  clear e ha2 hb2 hx hy hu hv
  obtain ⟨r1, r2, r3, r4, r5⟩ := full_arith p1 p2 p3 p4 q1 q2 q3 q4 hab
  have e1 : IntKind.u64.wrap p1 = p1 := u64w q1.1 (by omega)
  have e2 : IntKind.u64.wrap p2 = p2 := u64w q2.1 (by clear e1; omega)
  have e3 : IntKind.u64.wrap p3 = p3 := u64w q3.1 (by clear e1 e2; omega)
  have e4 : IntKind.u64.wrap p4 = p4 := u64w q4.1 (by clear e1 e2 e3; omega)
  rw [e1, e2, e3, e4]
  clear e1 e2 e3 e4
  rw [u64w (x := p2 + p4 / 4294967296) (by omega) (by omega), and32 ⟨by omega, by omega⟩, u64w (x := (p2 + p4 / 4294967296) % 4294967296 + p3) (by omega) (by omega),
    u64w (x := p1 + (p2 + p4 / 4294967296) / 4294967296) (by omega) (by omega), u64w (x := p1 + (p2 + p4 / 4294967296) / 4294967296 + ((p2 + p4 / 4294967296) % 4294967296 + p3) / 4294967296) (by omega) (by omega),
    and32 ⟨by omega, by omega⟩, u64_mod, or32 (by omega) (by omega) (by omega) (by omega) (by omega), r1, r2]
theorem fits_eq (hi lo : Int) : wide_Fits.f hi lo = some (if hi > 0 then (0, false) else (lo, true)) := by
  unfold wide_Fits.f; split <;> rfl
theorem mulw_eq {a b : Int} (ha : Wd a) (hb : Wd b) : wide_Mul.f a b = some (if a * b < 18446744073709551616 then (a * b, true) else (0, false)) := by
  unfold wide_Mul.f
  rw [full_eq ha hb]
  simp only [Option.bind_some]
  rw [fits_eq]
  simp only [Option.bind_some]
  have h0 : 0 ≤ a * b := Int.mul_nonneg ha.1 hb.1
  by_cases h : a * b < 18446744073709551616
  · rw [if_pos h, if_neg (by omega)]
    rw [Int.emod_eq_of_lt h0 h]
  · rw [if_neg h, if_pos (by omega)]
end Go.Proofs.YteipfcflijdapaaDoor.N
end
section
namespace Go.Proofs.YteipfcflijdapaaDoor.N
open Go Go.RowKit Go.Proofs.YteipfcflijdapaaDoor.F Go.Proofs.YteipfcflijdapaaDoorW.PrintWords Go.Proofs.YteipfcflijdapaaDoorW.PrintLast Go.Proofs.YteipfcflijdapaaDoorW.PrintMore Go.Proofs.YteipfcflijdapaaDoor.Digs
set_option linter.unusedSimpArgs false
set_option linter.unusedVariables false
theorem shr_eq (x i : Nat) (hi : i ≤ 64) : shr .u64 (x : Int) (i : Int) = ((x / 2 ^ i : Nat) : Int) := by
  have e : IntKind.bits .u64 = 64 := rfl
  unfold shr
  rw [Int.toNat_natCast, e, Nat.min_eq_left hi, Int.natCast_ediv, Int.natCast_pow]; rfl
theorem and1N (n : Nat) (h : n < 18446744073709551616) : Go.bits .and .u64 (n : Int) 1 = ((n % 2 : Nat) : Int) := by
  rw [and1 ⟨by omega, by omega⟩]; omega
theorem bit_of (hi lo i : Nat) (hlo : lo < 18446744073709551616) : (hi * 18446744073709551616 + lo) / 2 ^ i % 2 = if i < 64 then lo / 2 ^ i % 2 else hi / 2 ^ (i - 64) % 2 := by
  have h := Nat.testBit_two_pow_mul_add hi (b := lo) (i := 64) (by simpa using hlo) i
  rw [show (2 : Nat) ^ 64 = 18446744073709551616 from by decide, Nat.mul_comm] at h
  rw [Nat.testBit_eq_decide_div_mod_eq] at h
  by_cases hi64 : i < 64
  · rw [if_pos hi64] at h ⊢
    rw [Nat.testBit_eq_decide_div_mod_eq] at h
    have h2 := decide_eq_decide.1 h
    have a1 := Nat.mod_two_eq_zero_or_one ((hi * 18446744073709551616 + lo) / 2 ^ i)
    have a2 := Nat.mod_two_eq_zero_or_one (lo / 2 ^ i)
    omega
  · rw [if_neg hi64] at h ⊢
    rw [Nat.testBit_eq_decide_div_mod_eq] at h
    have h2 := decide_eq_decide.1 h
    have a1 := Nat.mod_two_eq_zero_or_one ((hi * 18446744073709551616 + lo) / 2 ^ i)
    have a2 := Nat.mod_two_eq_zero_or_one (hi / 2 ^ (i - 64))
    omega
theorem bit_eq (hi lo i : Nat) (hhi : hi < 18446744073709551616) (hlo : lo < 18446744073709551616) (hi128 : i < 128) :
    wide_bit.f hi lo i = some (((hi * 18446744073709551616 + lo) / 2 ^ i % 2 : Nat) : Int) := by
  rw [bit_of hi lo i hlo]
  unfold wide_bit.f
  by_cases h : i < 64
  · rw [if_neg (by omega), if_pos (by omega), if_pos h, shr_eq lo i (by omega), and1N _ (Nat.lt_of_le_of_lt (Nat.div_le_self _ _) hlo)]
  · have e : wrap64 ((i : Int) - 64) = ((i - 64 : Nat) : Int) := by rw [i64w (by omega) (by omega)]; omega
    rw [if_pos (by omega), e, if_pos (by omega), if_neg h, shr_eq hi (i - 64) (by omega), and1N _ (Nat.lt_of_le_of_lt (Nat.div_le_self _ _) hhi)]
theorem div_arith (T d : Nat) (hd : 0 < d) (b : Nat) (hb : b < 2) :
    (2 * T + b) / d = 2 * (T / d) + (if d ≤ 2 * (T % d) + b then 1 else 0) ∧ (2 * T + b) % d = if d ≤ 2 * (T % d) + b then 2 * (T % d) + b - d else 2 * (T % d) + b := by
  have h1 := Nat.div_add_mod T d
  have h2 := Nat.mod_lt T hd
  generalize T / d = q at *
  generalize T % d = r at *
  subst h1
  by_cases h : d ≤ 2 * r + b
  · rw [if_pos h, if_pos h]
    have e : 2 * (d * q + r) + b = (2 * r + b - d) + d * (2 * q + 1) := by
      have : d * (2 * q + 1) = 2 * (d * q) + d := by rw [Nat.mul_add, Nat.mul_one, Nat.mul_left_comm]
      omega
    rw [e, Nat.add_mul_div_left _ _ hd, Nat.add_mul_mod_self_left, Nat.div_eq_of_lt (by omega), Nat.mod_eq_of_lt (by omega)]
    omega
  · rw [if_neg h, if_neg h]
    have e : 2 * (d * q + r) + b = (2 * r + b) + d * (2 * q) := by
      have : d * (2 * q) = 2 * (d * q) := by rw [Nat.mul_left_comm]
      omega
    rw [e, Nat.add_mul_div_left _ _ hd, Nat.add_mul_mod_self_left, Nat.div_eq_of_lt (by omega), Nat.mod_eq_of_lt (by omega)]
    omega
theorem dbl_hi (q : Nat) (h : 2 * q < 340282366920938463463374607431768211456) :
    Go.bits .or .u64 (IntKind.u64.wrap (((q / 18446744073709551616 : Nat) : Int) * 2)) (((q % 18446744073709551616 : Nat) : Int) / 9223372036854775808) = ((2 * q / 18446744073709551616 : Nat) : Int) := by
  rw [u64w (by omega) (by omega), or1 (by omega) (by omega) (by omega) (by omega) (by omega)]; omega
theorem dbl_lo (q : Nat) : IntKind.u64.wrap (((q % 18446744073709551616 : Nat) : Int) * 2) = ((2 * q % 18446744073709551616 : Nat) : Int) := by
  rw [u64_mod]; omega
theorem dbl_lo1 (q : Nat) : Go.bits .or .u64 (IntKind.u64.wrap (((q % 18446744073709551616 : Nat) : Int) * 2)) 1 = (((2 * q + 1) % 18446744073709551616 : Nat) : Int) := by
  rw [dbl_lo, or1 (by omega) (by omega) (by omega) (by omega) (by omega)]; omega
theorem dbl_rest (r b : Nat) (hb : b < 2) : Go.bits .or .u64 (IntKind.u64.wrap ((r : Int) * 2)) (b : Int) = (((2 * r + b) % 18446744073709551616 : Nat) : Int) := by
  rw [u64_mod, or1 (by omega) (by omega) (by omega) (by omega) (by omega)]; omega
theorem div_l0 (hi lo d : Nat) (hhi : hi < 18446744073709551616) (hlo : lo < 18446744073709551616) (hd : 0 < d) (hd1 : d < 18446744073709551616) (N : Nat) (hN : N = hi * 18446744073709551616 + lo) (i : Nat) : i ≤ 128 →
    Ev (fun k => wide_Div.l0 k d ((N / 2 ^ i % d : Nat) : Int) ((i : Int) - 1) hi lo ((N / 2 ^ i / d / 18446744073709551616 : Nat) : Int) ((N / 2 ^ i / d % 18446744073709551616 : Nat) : Int))
      (((N / d / 18446744073709551616 : Nat) : Int), ((N / d % 18446744073709551616 : Nat) : Int), ((N % d : Nat) : Int), true) := by
  induction i with
  | zero =>
    intro _
    refine ⟨1, fun k hk => ?_⟩
    obtain ⟨k, rfl⟩ : ∃ m, k = m + 1 := ⟨k - 1, by omega⟩
    simp only [wide_Div.l0]
    rw [if_neg (by omega), Nat.pow_zero, Nat.div_one]
  | succ i ih =>
    intro hi1
    have hbit := bit_eq hi lo i hhi hlo (by omega)
    rw [← hN] at hbit
    have e1 : (((i + 1 : Nat) : Int) - 1) = (i : Int) := by omega
    have hge : (i : Int) ≥ 0 := by omega
    have e2 : wrap64 ((i : Int) - 1) = (i : Int) - 1 := i64w (by omega) (by omega)
    have ih' := ih (by clear e2; omega)
    clear ih
    have hT : N / 2 ^ (i + 1) = N / 2 ^ i / 2 := by rw [Nat.pow_succ, Nat.div_div_eq_div_mul]
    have hTN : N / 2 ^ i ≤ N := Nat.div_le_self _ _
    rw [hT]
    generalize N / 2 ^ i = T at *
    obtain ⟨a1, a2⟩ := div_arith (T / 2) d hd (T % 2) (Nat.mod_lt _ (by decide))
    have e3 : 2 * (T / 2) + T % 2 = T := Nat.div_add_mod T 2
    rw [e3] at a1 a2
    have hq : T / d ≤ T := Nat.div_le_self _ _
    have hr : T / 2 % d < d := Nat.mod_lt _ hd
    rw [a1, a2] at ih'
    rw [a1] at hq
    have hb2 : T % 2 < 2 := Nat.mod_lt _ (by decide)
    clear a1 a2 hT
    generalize T / 2 / d = q at *
    generalize T / 2 % d = r at *
    generalize T % 2 = b at *
    have hN2 : T < 340282366920938463463374607431768211456 := by clear e2; omega
    have hover : ((r : Int) / 9223372036854775808 > 0 ↔ 9223372036854775808 ≤ r) := by clear e2; omega
    by_cases hc : d ≤ 2 * r + b
    · rw [if_pos hc, if_pos hc] at ih'
      rw [if_pos hc] at hq
      have q2 : 2 * q < 340282366920938463463374607431768211456 := by clear e2; omega
      have hq1 : (2 * q + 1) / 18446744073709551616 = 2 * q / 18446744073709551616 := by clear e2; omega
      rw [hq1] at ih'
      have hrest : IntKind.u64.wrap ((((2 * r + b) % 18446744073709551616 : Nat) : Int) - d) = ((2 * r + b - d : Nat) : Int) := by
        clear e2; rw [u64_mod]; omega
      refine Ev.step (fun k => ?_) ih'
      simp only [wide_Div.l0]
      rw [e1, if_pos hge, hbit]
      simp only [Option.bind_some]
      rw [dbl_rest r b hb2, dbl_hi q q2, dbl_lo1, e2, hrest]
      by_cases ho : (r : Int) / 9223372036854775808 > 0
      · rw [if_pos ho]
      · have hge2 : (((2 * r + b) % 18446744073709551616 : Nat) : Int) ≥ d := by clear e2 hrest; omega
        rw [if_neg ho, if_pos hge2]
    · rw [if_neg hc, if_neg hc] at ih'
      rw [if_neg hc] at hq
      have q2 : 2 * q < 340282366920938463463374607431768211456 := by clear e2; omega
      have hno : ¬ ((r : Int) / 9223372036854775808 > 0) := by clear e2; omega
      have hlt : ¬ ((((2 * r + b) % 18446744073709551616 : Nat) : Int) ≥ d) := by clear e2; omega
      have hm : (2 * r + b) % 18446744073709551616 = 2 * r + b := Nat.mod_eq_of_lt (by clear e2; omega)
      rw [hm] at hlt
      refine Ev.step (fun k => ?_) ih'
      simp only [wide_Div.l0]
      rw [e1, if_pos hge, hbit]
      simp only [Option.bind_some]
      rw [dbl_rest r b hb2, dbl_hi q q2, dbl_lo, e2, hm, if_neg hno, if_neg hlt]
      rfl
theorem divw_ev (hi lo d : Nat) (hhi : hi < 18446744073709551616) (hlo : lo < 18446744073709551616) (hd : 0 < d) (hd1 : d < 18446744073709551616) :
    Ev (fun k => wide_Div.f k hi lo d) ((((hi * 18446744073709551616 + lo) / d / 18446744073709551616 : Nat) : Int), (((hi * 18446744073709551616 + lo) / d % 18446744073709551616 : Nat) : Int), (((hi * 18446744073709551616 + lo) % d : Nat) : Int), true) := by
  have h := div_l0 hi lo d hhi hlo hd hd1 _ rfl 128 (Nat.le_refl _)
  have e : (hi * 18446744073709551616 + lo) / 2 ^ 128 = 0 := Nat.div_eq_of_lt (by rw [show (2 : Nat) ^ 128 = 340282366920938463463374607431768211456 from by decide]; omega)
  rw [e, Nat.zero_mod, Nat.zero_div, Nat.zero_div, Nat.zero_mod] at h
  refine Ev.congr (fun k => ?_) h
  unfold wide_Div.f
  rw [if_neg (by omega)]
  rfl
end Go.Proofs.YteipfcflijdapaaDoor.N
end
section
namespace Go.Proofs.YteipfcflijdapaaDoor.N
open Go Go.RowKit Go.Proofs.YteipfcflijdapaaDoor.F Go.Proofs.YteipfcflijdapaaDoorW.PrintWords Go.Proofs.YteipfcflijdapaaDoorW.PrintLast Go.Proofs.YteipfcflijdapaaDoorW.PrintMore Go.Proofs.YteipfcflijdapaaDoor.Digs
set_option linter.unusedSimpArgs false
set_option linter.unusedVariables false
theorem tz_eq (x : Nat) (h0 : x ≠ 0) (h : x < 18446744073709551616) : bits_TrailingZeros64.f (x : Int) = some ((Go.Lib.ctz 64 x : Nat) : Int) := by
  obtain ⟨hlow, hk⟩ := Go.Lib.lowest_bit 64 x h0 h
  obtain ⟨hi, htab⟩ := Go.Lib.deBruijn64_at _ hk
  unfold bits_TrailingZeros64.f
  rw [if_neg (by omega)]
  have key : tzAt (x : Int) = _ := tz64_key x _ h h0 hlow
  rw [key, Int.toNat_natCast, htab]
theorem ctz_spec (x : Nat) (h0 : x ≠ 0) (h : x < 18446744073709551616) : ∃ m, x = 2 ^ Go.Lib.ctz 64 x * (2 * m + 1) ∧ Go.Lib.ctz 64 x < 64 := by
  have := Go.Lib.ctzFrom_spec 64 x (by omega) (by simpa using h)
  unfold Go.Lib.ctz
  rw [if_neg h0]
  exact this
theorem odd_part (x : Nat) (h0 : x ≠ 0) (h : x < 18446744073709551616) : ∃ m, shr .u64 (x : Int) ((Go.Lib.ctz 64 x : Nat) : Int) = ((2 * m + 1 : Nat) : Int) ∧ x = 2 ^ Go.Lib.ctz 64 x * (2 * m + 1) := by
  obtain ⟨m, hm, hk⟩ := ctz_spec x h0 h
  refine ⟨m, ?_, hm⟩
  rw [shr_eq x _ (by omega)]
  congr 1
  generalize Go.Lib.ctz 64 x = t at hm ⊢
  rw [hm, Nat.mul_div_cancel_left _ (Nat.two_pow_pos _)]
theorem two_odd (i m : Nat) : Nat.Coprime (2 ^ i) (2 * m + 1) := by
  apply Nat.Coprime.pow_left
  show Nat.gcd 2 (2 * m + 1) = 1
  rw [Nat.gcd_rec, show (2 * m + 1) % 2 = 1 from by omega]
  rfl
theorem gcd_odd (a i m : Nat) (ha : a % 2 = 1) : Nat.gcd a (2 ^ i * (2 * m + 1)) = Nat.gcd a (2 * m + 1) := by
  obtain ⟨n, rfl⟩ : ∃ n, a = 2 * n + 1 := ⟨a / 2, by omega⟩
  rw [Nat.mul_comm (2 ^ i)]
  exact Nat.Coprime.gcd_mul_right_cancel_right _ (two_odd i n)
theorem or_dvd (a b t : Nat) : 2 ^ t ∣ (a ||| b) ↔ 2 ^ t ∣ a ∧ 2 ^ t ∣ b := by
  simp only [Nat.dvd_iff_mod_eq_zero, Nat.or_mod_two_pow, Nat.or_eq_zero_iff]
theorem odd_not (i m t : Nat) (h : 2 ^ t ∣ 2 ^ i * (2 * m + 1)) : t ≤ i := by
  apply Nat.le_of_not_lt
  intro hlt
  have h1 : 2 ^ (i + 1) ∣ 2 ^ i * (2 * m + 1) := Nat.dvd_trans (Nat.pow_dvd_pow 2 hlt) h
  rw [Nat.pow_succ] at h1
  have h2 : 2 ∣ 2 * m + 1 := Nat.dvd_of_mul_dvd_mul_left (Nat.two_pow_pos i) h1
  omega
theorem gcd_split (a b i j s m n : Nat) (ha : a = 2 ^ i * (2 * m + 1)) (hb : b = 2 ^ j * (2 * n + 1)) (hs : ∃ u, (a ||| b) = 2 ^ s * (2 * u + 1)) : Nat.gcd a b = 2 ^ s * Nat.gcd (2 * m + 1) b := by
  obtain ⟨u, hu⟩ := hs
  have d1 : 2 ^ s ∣ a ∧ 2 ^ s ∣ b := (or_dvd a b s).1 ⟨_, hu⟩
  have si : s ≤ i := odd_not i m s (ha ▸ d1.1)
  have sj : s ≤ j := odd_not j n s (hb ▸ d1.2)
  have hmin : s = min i j := by
    apply Nat.le_antisymm (by omega)
    have e1 : 2 ^ min i j ∣ a := ha ▸ Nat.dvd_trans (Nat.pow_dvd_pow 2 (Nat.min_le_left _ _)) (Nat.dvd_mul_right _ _)
    have e2 : 2 ^ min i j ∣ b := hb ▸ Nat.dvd_trans (Nat.pow_dvd_pow 2 (Nat.min_le_right _ _)) (Nat.dvd_mul_right _ _)
    have e3 := (or_dvd a b _).2 ⟨e1, e2⟩
    rw [hu] at e3
    exact odd_not s u _ e3
  have g1 : Nat.gcd b a = Nat.gcd b (2 ^ i) * Nat.gcd b (2 * m + 1) := by
    rw [ha]; exact Nat.Coprime.gcd_mul b (two_odd i m)
  have g2 : Nat.gcd b (2 ^ i) = 2 ^ s := by
    rw [hb, Nat.mul_comm, Nat.Coprime.gcd_mul_left_cancel _ (two_odd i n).symm, hmin]
    rcases Nat.le_total i j with h | h
    · rw [Nat.min_eq_left h]; exact Nat.gcd_eq_right (Nat.pow_dvd_pow 2 h)
    · rw [Nat.min_eq_right h]; exact Nat.gcd_eq_left (Nat.pow_dvd_pow 2 h)
  rw [Nat.gcd_comm a b, g1, g2, Nat.gcd_comm b]
end Go.Proofs.YteipfcflijdapaaDoor.N
end
