-- Cut for this claim by a program (wip/prune.py) out of the texts that its bench laid or wrote
import Derived.Test.YtjphoempoinedaaNat2
import Derived.Test.YtjphoempoinedaaFWideA
section
namespace Go.Proofs.Ytjphoempoinedaa.N
open Go Go.RowKit Go.Proofs.Ytjphoempoinedaa.F Go.Proofs.YtjphoempoinedaaW.PrintWords Go.Proofs.YtjphoempoinedaaW.PrintLast Go.Proofs.YtjphoempoinedaaW.PrintMore Go.Proofs.Ytjphoempoinedaa.Digs
set_option linter.unusedSimpArgs false
set_option linter.unusedVariables false
def Wd (x : Int) : Prop := 0 ≤ x ∧ x < 18446744073709551616
theorem wraps_u64 (n : Int) (h₀ : 0 ≤ n) (h₁ : n < 2 ^ 64) : IntKind.u64.wrap n = n := u64w h₀ (by simpa using h₁)
theorem and32 {x : Int} (h : Wd x) : Go.bits .and .u64 x 4294967295 = x % 4294967296 := by
  have := bits_mask .u64 64 (by decide) wraps_u64 32 (by decide) x h.1 (by simpa using h.2)
  simpa using this
theorem or32 {x y : Int} (hx : 0 ≤ x) (hx1 : x < 18446744073709551616) (hm : x % 4294967296 = 0) (hy : 0 ≤ y) (hy1 : y < 4294967296) : Go.bits .or .u64 x y = x + y :=
  bits_join .u64 64 (by decide) wraps_u64 32 x y hx (by simpa using hm) (by simpa using hx1) hy (by simpa using hy1) (by simp; omega)
theorem prod32 {x y : Int} (hx : 0 ≤ x) (hx1 : x < 4294967296) (hy : 0 ≤ y) (hy1 : y < 4294967296) : 0 ≤ x * y ∧ x * y ≤ 18446744065119617025 := by
  refine ⟨Int.mul_nonneg hx hy, ?_⟩
  have h1 : x * y ≤ 4294967295 * y := Int.mul_le_mul_of_nonneg_right (by omega) hy
  omega
theorem full_arith (p1 p2 p3 p4 : Int) (_h1 : 0 ≤ p1 ∧ p1 ≤ 18446744065119617025) (h2 : 0 ≤ p2 ∧ p2 ≤ 18446744065119617025) (h3 : 0 ≤ p3 ∧ p3 ≤ 18446744065119617025) (h4 : 0 ≤ p4 ∧ p4 ≤ 18446744065119617025)
    (hb : p1 * 18446744073709551616 + (p2 + p3) * 4294967296 + p4 < 340282366920938463463374607431768211456) :
    p1 + (p2 + p4 / 4294967296) / 4294967296 + ((p2 + p4 / 4294967296) % 4294967296 + p3) / 4294967296 = (p1 * 18446744073709551616 + (p2 + p3) * 4294967296 + p4) / 18446744073709551616 ∧
    ((p2 + p4 / 4294967296) % 4294967296 + p3) * 4294967296 % 18446744073709551616 + p4 % 4294967296 = (p1 * 18446744073709551616 + (p2 + p3) * 4294967296 + p4) % 18446744073709551616 ∧
    p2 + p4 / 4294967296 < 18446744073709551616 ∧ (p2 + p4 / 4294967296) % 4294967296 + p3 < 18446744073709551616 ∧ p1 + (p2 + p4 / 4294967296) / 4294967296 + ((p2 + p4 / 4294967296) % 4294967296 + p3) / 4294967296 < 18446744073709551616 := by
  omega
theorem full_eq {a b : Int} (ha : Wd a) (hb : Wd b) : wide_Full.f a b = some (a * b / 18446744073709551616, a * b % 18446744073709551616) := by
  obtain ⟨ha0, ha1⟩ := ha
  obtain ⟨hb0, hb1⟩ := hb
  have ha2 : a = a / 4294967296 * 4294967296 + a % 4294967296 := by omega
  have hb2 : b = b / 4294967296 * 4294967296 + b % 4294967296 := by omega
  have hx : 0 ≤ a / 4294967296 ∧ a / 4294967296 < 4294967296 := by omega
  have hy : 0 ≤ a % 4294967296 ∧ a % 4294967296 < 4294967296 := by omega
  have hu : 0 ≤ b / 4294967296 ∧ b / 4294967296 < 4294967296 := by omega
  have hv : 0 ≤ b % 4294967296 ∧ b % 4294967296 < 4294967296 := by omega
  have hab : a * b < 340282366920938463463374607431768211456 := by
    have h1 : a * b ≤ 18446744073709551615 * b := Int.mul_le_mul_of_nonneg_right (by omega) hb0
    omega
  unfold wide_Full.f
  rw [and32 ⟨ha0, ha1⟩, and32 ⟨hb0, hb1⟩]
  generalize a / 4294967296 = x at *
  generalize a % 4294967296 = y at *
  generalize b / 4294967296 = u at *
  generalize b % 4294967296 = v at *
  have e : a * b = x * u * 18446744073709551616 + (x * v + y * u) * 4294967296 + y * v := by rw [ha2, hb2]; grind
  rw [e] at hab ⊢
  have q1 := prod32 hx.1 hx.2 hu.1 hu.2
  have q2 := prod32 hx.1 hx.2 hv.1 hv.2
  have q3 := prod32 hy.1 hy.2 hu.1 hu.2
  have q4 := prod32 hy.1 hy.2 hv.1 hv.2
  generalize x * u = p1 at *
  generalize x * v = p2 at *
  generalize y * u = p3 at *
  generalize y * v = p4 at *
  clear e ha2 hb2 hx hy hu hv
  obtain ⟨r1, r2, r3, r4, r5⟩ := full_arith p1 p2 p3 p4 q1 q2 q3 q4 hab
  have e1 : IntKind.u64.wrap p1 = p1 := u64w q1.1 (by omega)
  have e2 : IntKind.u64.wrap p2 = p2 := u64w q2.1 (by clear e1; omega)
  have e3 : IntKind.u64.wrap p3 = p3 := u64w q3.1 (by clear e1 e2; omega)
  have e4 : IntKind.u64.wrap p4 = p4 := u64w q4.1 (by clear e1 e2 e3; omega)
  rw [e1, e2, e3, e4]
  clear e1 e2 e3 e4
  rw [u64w (x := p2 + p4 / 4294967296) (by omega) (by omega), and32 ⟨by omega, by omega⟩, u64w (x := (p2 + p4 / 4294967296) % 4294967296 + p3) (by omega) (by omega),
    u64w (x := p1 + (p2 + p4 / 4294967296) / 4294967296) (by omega) (by omega), u64w (x := p1 + (p2 + p4 / 4294967296) / 4294967296 + ((p2 + p4 / 4294967296) % 4294967296 + p3) / 4294967296) (by omega) (by omega),
    and32 ⟨by omega, by omega⟩, u64_mod, or32 (by omega) (by omega) (by omega) (by omega) (by omega), r1, r2]
theorem fits_eq (hi lo : Int) : wide_Fits.f hi lo = some (if hi > 0 then (0, false) else (lo, true)) := by
  unfold wide_Fits.f; split <;> rfl
theorem mulw_eq {a b : Int} (ha : Wd a) (hb : Wd b) : wide_Mul.f a b = some (if a * b < 18446744073709551616 then (a * b, true) else (0, false)) := by
  unfold wide_Mul.f
  rw [full_eq ha hb]
  simp only [Option.bind_some]
  rw [fits_eq]
  simp only [Option.bind_some]
  have h0 : 0 ≤ a * b := Int.mul_nonneg ha.1 hb.1
  by_cases h : a * b < 18446744073709551616
  · rw [if_pos h, if_neg (by omega)]
    rw [Int.emod_eq_of_lt h0 h]
  · rw [if_neg h, if_pos (by omega)]
theorem addw_eq {a b : Int} (ha : Wd a) (hb : Wd b) : wide_Add.f a b = some (if a + b < 18446744073709551616 then (a + b, true) else (0, false)) := by
  obtain ⟨ha0, ha1⟩ := ha
  obtain ⟨hb0, hb1⟩ := hb
  unfold wide_Add.f
  rw [u64_mod]
  by_cases h : a + b < 18446744073709551616
  · rw [if_pos h, if_neg (by omega), Int.emod_eq_of_lt (by omega) h]
  · rw [if_neg h, if_pos (by omega)]
end Go.Proofs.Ytjphoempoinedaa.N
end
section
namespace Go.Proofs.Ytjphoempoinedaa.N
open Go Go.RowKit Go.Proofs.Ytjphoempoinedaa.F Go.Proofs.YtjphoempoinedaaW.PrintWords Go.Proofs.YtjphoempoinedaaW.PrintLast Go.Proofs.YtjphoempoinedaaW.PrintMore Go.Proofs.Ytjphoempoinedaa.Digs
set_option linter.unusedSimpArgs false
set_option linter.unusedVariables false
theorem wd (n : Nat) (h : n < 18446744073709551616) : Wd (n : Int) := ⟨by omega, by omega⟩
theorem add_nat (a b : Nat) (ha : a < 18446744073709551616) (hb : b < 18446744073709551616) :
    wide_Add.f a b = some (if a + b < 18446744073709551616 then (((a + b : Nat) : Int), true) else (0, false)) := by
  rw [addw_eq (wd a ha) (wd b hb)]
  by_cases h : a + b < 18446744073709551616
  · rw [if_pos h, if_pos (by omega), Int.natCast_add]
  · rw [if_neg h, if_neg (by omega)]
theorem mul_nat (a b : Nat) (ha : a < 18446744073709551616) (hb : b < 18446744073709551616) :
    wide_Mul.f a b = some (if a * b < 18446744073709551616 then (((a * b : Nat) : Int), true) else (0, false)) := by
  rw [mulw_eq (wd a ha) (wd b hb), ← Int.natCast_mul]
  by_cases h : a * b < 18446744073709551616
  · rw [if_pos h, if_pos (by omega)]
  · rw [if_neg h, if_neg (by omega)]
end Go.Proofs.Ytjphoempoinedaa.N
end
section
namespace Go.Proofs.Ytjphoempoinedaa.N
open Go Go.RowKit Go.Proofs.Ytjphoempoinedaa.F Go.Proofs.YtjphoempoinedaaW.PrintWords Go.Proofs.YtjphoempoinedaaW.PrintLast Go.Proofs.YtjphoempoinedaaW.PrintMore Go.Proofs.Ytjphoempoinedaa.Digs
set_option linter.unusedSimpArgs false
set_option linter.unusedVariables false
theorem sum_nat (ah al bh bl : Nat) (h1 : ah < 18446744073709551616) (h2 : al < 18446744073709551616) (h3 : bh < 18446744073709551616) (h4 : bl < 18446744073709551616) (s : Nat) (hs : s = (ah * 18446744073709551616 + al) + (bh * 18446744073709551616 + bl)) :
    Ev (fun k => wide_Sum.f k ah al bh bl) (if s < 340282366920938463463374607431768211456 then (((s / 18446744073709551616 : Nat) : Int), ((s % 18446744073709551616 : Nat) : Int), true) else (0, 0, false)) := by
  have hw : IntKind.u64.wrap ((al : Int) + bl) = (((al + bl) % 18446744073709551616 : Nat) : Int) := by rw [u64_mod]; omega
  unfold wide_Sum.f
  rw [add_nat ah bh h1 h3, hw]
  clear hw
  simp only [Option.bind_some]
  by_cases ho : ah + bh < 18446744073709551616
  · rw [if_pos ho]
    by_cases hc : (((al + bl) % 18446744073709551616 : Nat) : Int) < al
    · have ha := add_nat (ah + bh) 1 ho (by decide)
      refine ⟨1, fun k hk => ?_⟩
      obtain ⟨k, rfl⟩ : ∃ m, k = m + 1 := ⟨k - 1, by omega⟩
      simp only [if_true, wide_Sum.j0, decide_eq_true hc]
      have e : ((1 : Nat) : Int) = 1 := rfl
      rw [e] at ha
      rw [ha]
      simp only [Option.bind_some]
      by_cases hs1 : ah + bh + 1 < 18446744073709551616
      · have hlt : s < 340282366920938463463374607431768211456 := by clear ha; omega
        have e1 : s / 18446744073709551616 = ah + bh + 1 := by clear ha; omega
        have e2 : s % 18446744073709551616 = (al + bl) % 18446744073709551616 := by clear ha; omega
        rw [if_pos hs1, if_pos hlt, e1, e2]
        simp only [if_true]
      · have hge : ¬ s < 340282366920938463463374607431768211456 := by clear ha; omega
        rw [if_neg hs1, if_neg hge]
        simp only [Bool.false_eq_true, if_false]
    · have hlt : s < 340282366920938463463374607431768211456 := by omega
      have e1 : s / 18446744073709551616 = ah + bh := by omega
      have e2 : s % 18446744073709551616 = (al + bl) % 18446744073709551616 := by omega
      refine ⟨1, fun k hk => ?_⟩
      obtain ⟨k, rfl⟩ : ∃ m, k = m + 1 := ⟨k - 1, by omega⟩
      rw [if_pos hlt, e1, e2]
      simp only [if_true, wide_Sum.j0, decide_eq_false hc, Bool.false_eq_true, if_false]
  · have hge : ¬ s < 340282366920938463463374607431768211456 := by omega
    rw [if_neg ho]
    refine ⟨1, fun k hk => ?_⟩
    obtain ⟨k, rfl⟩ : ∃ m, k = m + 1 := ⟨k - 1, by omega⟩
    rw [if_neg hge]
    simp only [wide_Sum.j0, Bool.false_eq_true, if_false]
end Go.Proofs.Ytjphoempoinedaa.N
end
