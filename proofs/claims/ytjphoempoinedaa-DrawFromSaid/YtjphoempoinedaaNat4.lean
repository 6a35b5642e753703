import Derived.Test.YtjphoempoinedaaNat3
import Derived.Test.YtjphoempoinedaaFWideA
namespace Go.Proofs.Ytjphoempoinedaa.N
open Go Go.RowKit Go.Proofs.Ytjphoempoinedaa.F Go.Proofs.YtjphoempoinedaaW.PrintWords Go.Proofs.YtjphoempoinedaaW.PrintLast Go.Proofs.YtjphoempoinedaaW.PrintMore Go.Proofs.Ytjphoempoinedaa.Digs
set_option linter.unusedSimpArgs false
set_option linter.unusedVariables false

theorem shr_eq (x i : Nat) (hi : i ≤ 64) : shr .u64 (x : Int) (i : Int) = ((x / 2 ^ i : Nat) : Int) := by
  have e : IntKind.bits .u64 = 64 := rfl
  unfold shr
  rw [Int.toNat_natCast, e, Nat.min_eq_left hi, Int.natCast_ediv, Int.natCast_pow]; rfl
theorem and1N (n : Nat) (h : n < 18446744073709551616) : Go.bits .and .u64 (n : Int) 1 = ((n % 2 : Nat) : Int) := by
  rw [and1 ⟨by omega, by omega⟩]; omega
theorem bit_of (hi lo i : Nat) (hlo : lo < 18446744073709551616) : (hi * 18446744073709551616 + lo) / 2 ^ i % 2 = if i < 64 then lo / 2 ^ i % 2 else hi / 2 ^ (i - 64) % 2 := by
  have h := Nat.testBit_two_pow_mul_add hi (b := lo) (i := 64) (by simpa using hlo) i
  rw [show (2 : Nat) ^ 64 = 18446744073709551616 from by decide, Nat.mul_comm] at h
  rw [Nat.testBit_eq_decide_div_mod_eq] at h
  by_cases hi64 : i < 64
  · rw [if_pos hi64] at h ⊢
    rw [Nat.testBit_eq_decide_div_mod_eq] at h
    have h2 := decide_eq_decide.1 h
    have a1 := Nat.mod_two_eq_zero_or_one ((hi * 18446744073709551616 + lo) / 2 ^ i)
    have a2 := Nat.mod_two_eq_zero_or_one (lo / 2 ^ i)
    omega
  · rw [if_neg hi64] at h ⊢
    rw [Nat.testBit_eq_decide_div_mod_eq] at h
    have h2 := decide_eq_decide.1 h
    have a1 := Nat.mod_two_eq_zero_or_one ((hi * 18446744073709551616 + lo) / 2 ^ i)
    have a2 := Nat.mod_two_eq_zero_or_one (hi / 2 ^ (i - 64))
    omega
theorem bit_eq (hi lo i : Nat) (hhi : hi < 18446744073709551616) (hlo : lo < 18446744073709551616) (hi128 : i < 128) :
    wide_bit.f hi lo i = some (((hi * 18446744073709551616 + lo) / 2 ^ i % 2 : Nat) : Int) := by
  rw [bit_of hi lo i hlo]
  unfold wide_bit.f
  by_cases h : i < 64
  · rw [if_neg (by omega), if_pos (by omega), if_pos h, shr_eq lo i (by omega), and1N _ (Nat.lt_of_le_of_lt (Nat.div_le_self _ _) hlo)]
  · have e : wrap64 ((i : Int) - 64) = ((i - 64 : Nat) : Int) := by rw [i64w (by omega) (by omega)]; omega
    rw [if_pos (by omega), e, if_pos (by omega), if_neg h, shr_eq hi (i - 64) (by omega), and1N _ (Nat.lt_of_le_of_lt (Nat.div_le_self _ _) hhi)]
/-- A step of a division by halves. -/
theorem div_arith (T d : Nat) (hd : 0 < d) (b : Nat) (hb : b < 2) :
    (2 * T + b) / d = 2 * (T / d) + (if d ≤ 2 * (T % d) + b then 1 else 0) ∧ (2 * T + b) % d = if d ≤ 2 * (T % d) + b then 2 * (T % d) + b - d else 2 * (T % d) + b := by
  have h1 := Nat.div_add_mod T d
  have h2 := Nat.mod_lt T hd
  generalize T / d = q at *
  generalize T % d = r at *
  subst h1
  by_cases h : d ≤ 2 * r + b
  · rw [if_pos h, if_pos h]
    have e : 2 * (d * q + r) + b = (2 * r + b - d) + d * (2 * q + 1) := by
      have : d * (2 * q + 1) = 2 * (d * q) + d := by rw [Nat.mul_add, Nat.mul_one, Nat.mul_left_comm]
      omega
    rw [e, Nat.add_mul_div_left _ _ hd, Nat.add_mul_mod_self_left, Nat.div_eq_of_lt (by omega), Nat.mod_eq_of_lt (by omega)]
    omega
  · rw [if_neg h, if_neg h]
    have e : 2 * (d * q + r) + b = (2 * r + b) + d * (2 * q) := by
      have : d * (2 * q) = 2 * (d * q) := by rw [Nat.mul_left_comm]
      omega
    rw [e, Nat.add_mul_div_left _ _ hd, Nat.add_mul_mod_self_left, Nat.div_eq_of_lt (by omega), Nat.mod_eq_of_lt (by omega)]
    omega
/-- Words of a doubled number. -/
theorem dbl_hi (q : Nat) (h : 2 * q < 340282366920938463463374607431768211456) :
    Go.bits .or .u64 (IntKind.u64.wrap (((q / 18446744073709551616 : Nat) : Int) * 2)) (((q % 18446744073709551616 : Nat) : Int) / 9223372036854775808) = ((2 * q / 18446744073709551616 : Nat) : Int) := by
  rw [u64w (by omega) (by omega), or1 (by omega) (by omega) (by omega) (by omega) (by omega)]; omega
theorem dbl_lo (q : Nat) : IntKind.u64.wrap (((q % 18446744073709551616 : Nat) : Int) * 2) = ((2 * q % 18446744073709551616 : Nat) : Int) := by
  rw [u64_mod]; omega
theorem dbl_lo1 (q : Nat) : Go.bits .or .u64 (IntKind.u64.wrap (((q % 18446744073709551616 : Nat) : Int) * 2)) 1 = (((2 * q + 1) % 18446744073709551616 : Nat) : Int) := by
  rw [dbl_lo, or1 (by omega) (by omega) (by omega) (by omega) (by omega)]; omega
theorem dbl_rest (r b : Nat) (hb : b < 2) : Go.bits .or .u64 (IntKind.u64.wrap ((r : Int) * 2)) (b : Int) = (((2 * r + b) % 18446744073709551616 : Nat) : Int) := by
  rw [u64_mod, or1 (by omega) (by omega) (by omega) (by omega) (by omega)]; omega
theorem div_l0 (hi lo d : Nat) (hhi : hi < 18446744073709551616) (hlo : lo < 18446744073709551616) (hd : 0 < d) (hd1 : d < 18446744073709551616) (N : Nat) (hN : N = hi * 18446744073709551616 + lo) (i : Nat) : i ≤ 128 →
    Ev (fun k => wide_Div.l0 k d ((N / 2 ^ i % d : Nat) : Int) ((i : Int) - 1) hi lo ((N / 2 ^ i / d / 18446744073709551616 : Nat) : Int) ((N / 2 ^ i / d % 18446744073709551616 : Nat) : Int))
      (((N / d / 18446744073709551616 : Nat) : Int), ((N / d % 18446744073709551616 : Nat) : Int), ((N % d : Nat) : Int), true) := by
  induction i with
  | zero =>
    intro _
    refine ⟨1, fun k hk => ?_⟩
    obtain ⟨k, rfl⟩ : ∃ m, k = m + 1 := ⟨k - 1, by omega⟩
    simp only [wide_Div.l0]
    rw [if_neg (by omega), Nat.pow_zero, Nat.div_one]
  | succ i ih =>
    intro hi1
    have hbit := bit_eq hi lo i hhi hlo (by omega)
    rw [← hN] at hbit
    have e1 : (((i + 1 : Nat) : Int) - 1) = (i : Int) := by omega
    have hge : (i : Int) ≥ 0 := by omega
    have e2 : wrap64 ((i : Int) - 1) = (i : Int) - 1 := i64w (by omega) (by omega)
    have ih' := ih (by clear e2; omega)
    clear ih
    have hT : N / 2 ^ (i + 1) = N / 2 ^ i / 2 := by rw [Nat.pow_succ, Nat.div_div_eq_div_mul]
    have hTN : N / 2 ^ i ≤ N := Nat.div_le_self _ _
    rw [hT]
    generalize N / 2 ^ i = T at *
    obtain ⟨a1, a2⟩ := div_arith (T / 2) d hd (T % 2) (Nat.mod_lt _ (by decide))
    have e3 : 2 * (T / 2) + T % 2 = T := Nat.div_add_mod T 2
    rw [e3] at a1 a2
    have hq : T / d ≤ T := Nat.div_le_self _ _
    have hr : T / 2 % d < d := Nat.mod_lt _ hd
    rw [a1, a2] at ih'
    rw [a1] at hq
    have hb2 : T % 2 < 2 := Nat.mod_lt _ (by decide)
    clear a1 a2 hT
    generalize T / 2 / d = q at *
    generalize T / 2 % d = r at *
    generalize T % 2 = b at *
    have hN2 : T < 340282366920938463463374607431768211456 := by clear e2; omega
    have hover : ((r : Int) / 9223372036854775808 > 0 ↔ 9223372036854775808 ≤ r) := by clear e2; omega
    by_cases hc : d ≤ 2 * r + b
    · rw [if_pos hc, if_pos hc] at ih'
      rw [if_pos hc] at hq
      have q2 : 2 * q < 340282366920938463463374607431768211456 := by clear e2; omega
      have hq1 : (2 * q + 1) / 18446744073709551616 = 2 * q / 18446744073709551616 := by clear e2; omega
      rw [hq1] at ih'
      have hrest : IntKind.u64.wrap ((((2 * r + b) % 18446744073709551616 : Nat) : Int) - d) = ((2 * r + b - d : Nat) : Int) := by
        clear e2; rw [u64_mod]; omega
      refine Ev.step (fun k => ?_) ih'
      simp only [wide_Div.l0]
      rw [e1, if_pos hge, hbit]
      simp only [Option.bind_some]
      rw [dbl_rest r b hb2, dbl_hi q q2, dbl_lo1, e2, hrest]
      by_cases ho : (r : Int) / 9223372036854775808 > 0
      · rw [if_pos ho]
      · have hge2 : (((2 * r + b) % 18446744073709551616 : Nat) : Int) ≥ d := by clear e2 hrest; omega
        rw [if_neg ho, if_pos hge2]
    · rw [if_neg hc, if_neg hc] at ih'
      rw [if_neg hc] at hq
      have q2 : 2 * q < 340282366920938463463374607431768211456 := by clear e2; omega
      have hno : ¬ ((r : Int) / 9223372036854775808 > 0) := by clear e2; omega
      have hlt : ¬ ((((2 * r + b) % 18446744073709551616 : Nat) : Int) ≥ d) := by clear e2; omega
      have hm : (2 * r + b) % 18446744073709551616 = 2 * r + b := Nat.mod_eq_of_lt (by clear e2; omega)
      rw [hm] at hlt
      refine Ev.step (fun k => ?_) ih'
      simp only [wide_Div.l0]
      rw [e1, if_pos hge, hbit]
      simp only [Option.bind_some]
      rw [dbl_rest r b hb2, dbl_hi q q2, dbl_lo, e2, hm, if_neg hno, if_neg hlt]
      rfl
theorem divw_ev (hi lo d : Nat) (hhi : hi < 18446744073709551616) (hlo : lo < 18446744073709551616) (hd : 0 < d) (hd1 : d < 18446744073709551616) :
    Ev (fun k => wide_Div.f k hi lo d) ((((hi * 18446744073709551616 + lo) / d / 18446744073709551616 : Nat) : Int), (((hi * 18446744073709551616 + lo) / d % 18446744073709551616 : Nat) : Int), (((hi * 18446744073709551616 + lo) % d : Nat) : Int), true) := by
  have h := div_l0 hi lo d hhi hlo hd hd1 _ rfl 128 (Nat.le_refl _)
  have e : (hi * 18446744073709551616 + lo) / 2 ^ 128 = 0 := Nat.div_eq_of_lt (by rw [show (2 : Nat) ^ 128 = 340282366920938463463374607431768211456 from by decide]; omega)
  rw [e, Nat.zero_mod, Nat.zero_div, Nat.zero_div, Nat.zero_mod] at h
  refine Ev.congr (fun k => ?_) h
  unfold wide_Div.f
  rw [if_neg (by omega)]
  rfl
end Go.Proofs.Ytjphoempoinedaa.N
