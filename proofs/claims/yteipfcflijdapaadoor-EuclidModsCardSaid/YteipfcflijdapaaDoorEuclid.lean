-- Cut for this claim by a program (wip/prune.py) out of the texts that its bench laid or wrote
import Derived.Test.YteipfcflijdapaaDoorCtz
import Derived.Test.YteipfcflijdapaaDoorFEuclidA
namespace Go.Proofs.YteipfcflijdapaaDoor.N
open Go Go.RowKit Go.Proofs.YteipfcflijdapaaDoor.F Go.Proofs.YteipfcflijdapaaDoorW.PrintWords Go.Proofs.YteipfcflijdapaaDoorW.PrintLast Go.Proofs.YteipfcflijdapaaDoorW.PrintMore Go.Proofs.YteipfcflijdapaaDoor.Digs
set_option linter.unusedSimpArgs false
set_option linter.unusedVariables false
theorem shl_nat (a s : Nat) (h : 2 ^ s * a < 18446744073709551616) (hs : s < 64) : shl .u64 (a : Int) (s : Int) = ((2 ^ s * a : Nat) : Int) := by
  have e : IntKind.bits .u64 = 64 := rfl
  have q : shl .u64 (a : Int) (s : Int) = IntKind.u64.wrap (((a * 2 ^ s : Nat) : Int)) := by
    unfold shl
    rw [Int.toNat_natCast, e, Nat.min_eq_left (by omega), Int.natCast_mul, Int.natCast_pow]; rfl
  rw [q, Nat.mul_comm, u64w (by omega) (by omega)]
theorem gcd_le_odd (x y : Nat) (hx : 0 < x) : Nat.gcd x y ≤ x := Nat.le_of_dvd hx (Nat.gcd_dvd_left _ _)
theorem two_l0 (s : Nat) (hs : s < 64) (N : Nat) : ∀ (x y : Nat), x + y ≤ N → x % 2 = 1 → x < 18446744073709551616 → y < 18446744073709551616 → 2 ^ s * Nat.gcd x y < 18446744073709551616 →
    Ev (fun k => euclid_two.l0 k (x : Int) (y : Int) (s : Int)) ((2 ^ s * Nat.gcd x y : Nat) : Int) := by
  induction N with
  | zero => intro x y h hx; omega
  | succ N ih =>
    intro x y h hx hx64 hy64 hg
    by_cases hy : y = 0
    · subst hy
      rw [Nat.gcd_zero_right] at hg ⊢
      refine Ev.step (f := fun _ => some _) (fun k => ?_) (Ev.now _)
      simp only [euclid_two.l0]
      rw [if_neg (by omega), if_pos (by omega), shl_nat x s hg hs]
    · obtain ⟨m, hm, hym⟩ := odd_part y hy hy64
      have htz := tz_eq y hy hy64
      generalize Go.Lib.ctz 64 y = t at hm hym htz
      have hle : 2 * m + 1 ≤ y := by rw [hym]; exact Nat.le_mul_of_pos_left _ (Nat.two_pow_pos _)
      have hgcd : Nat.gcd x y = Nat.gcd x (2 * m + 1) := by rw [hym]; exact gcd_odd x t m hx
      by_cases hgt : 2 * m + 1 < x
      · have e : Nat.gcd (2 * m + 1) (x - (2 * m + 1)) = Nat.gcd x y := by rw [hgcd, Nat.gcd_sub_self_right (by omega), Nat.gcd_comm]
        have h' := ih (2 * m + 1) (x - (2 * m + 1)) (by omega) (by omega) (by omega) (by omega) (by rw [e]; exact hg)
        rw [e] at h'
        refine Ev.step (fun k => ?_) h'
        simp only [euclid_two.l0]
        rw [if_pos (by omega), htz]
        simp only [Option.bind_some]
        rw [if_pos (by omega), hm, if_pos (by omega), show ((x : Int) - ((2 * m + 1 : Nat) : Int)) = ((x - (2 * m + 1) : Nat) : Int) from by omega, u64w (by omega) (by omega)]
      · have e : Nat.gcd x (2 * m + 1 - x) = Nat.gcd x y := by rw [hgcd, Nat.gcd_sub_self_right (by omega)]
        have h' := ih x (2 * m + 1 - x) (by omega) hx hx64 (by omega) (by rw [e]; exact hg)
        rw [e] at h'
        refine Ev.step (fun k => ?_) h'
        simp only [euclid_two.l0]
        rw [if_pos (by omega), htz]
        simp only [Option.bind_some]
        rw [if_pos (by omega), hm, if_neg (by omega), show (((2 * m + 1 : Nat) : Int) - (x : Int)) = ((2 * m + 1 - x : Nat) : Int) from by omega, u64w (by omega) (by omega)]
theorem or_zero_u64 (a : Nat) (ha : a < 18446744073709551616) : Go.bits .or .u64 (0 : Int) (a : Int) = (a : Int) ∧ Go.bits .or .u64 (a : Int) (0 : Int) = (a : Int) := by
  have h1 := bits_or_u64_nat 0 a (by omega) ha
  have h2 := bits_or_u64_nat a 0 ha (by omega)
  rw [Nat.zero_or] at h1
  rw [Nat.or_zero] at h2
  exact ⟨h1, h2⟩
theorem two_ev (a b : Nat) (ha : a < 18446744073709551616) (hb : b < 18446744073709551616) : Ev (fun k => euclid_two.f k (a : Int) (b : Int)) ((Nat.gcd a b : Nat) : Int) := by
  by_cases h0 : a = 0
  · subst h0
    rw [Nat.gcd_zero_left]
    refine Ev.step (f := fun _ => some _) (fun k => ?_) (Ev.now _)
    unfold euclid_two.f
    rw [if_pos (show ((0 : Nat) : Int) = 0 from rfl)]
    simp only [euclid_two.j0]
    exact congrArg some (or_zero_u64 b hb).1
  · by_cases h1 : b = 0
    · subst h1
      rw [Nat.gcd_zero_right]
      refine Ev.step (f := fun _ => some _) (fun k => ?_) (Ev.now _)
      unfold euclid_two.f
      rw [if_neg (by omega)]
      simp only [euclid_two.j0]
      rw [if_pos (show (((0 : Nat) : Int) == 0) = true from rfl)]
      exact congrArg some (or_zero_u64 a ha).2
    · have hor := bits_or_u64_nat a b ha hb
      have ho0 : a ||| b ≠ 0 := by intro h; exact h0 (Nat.or_eq_zero_iff.1 h).1
      have ho : a ||| b < 18446744073709551616 := Nat.or_lt_two_pow (n := 64) ha hb
      obtain ⟨u, hu, hs⟩ := ctz_spec _ ho0 ho
      obtain ⟨m, hm, ham⟩ := odd_part a h0 ha
      obtain ⟨n, hbn, _⟩ := ctz_spec b h1 hb
      have t1 := tz_eq _ ho0 ho
      have t2 := tz_eq a h0 ha
      have hg := gcd_split a b _ _ _ m n ham hbn ⟨u, hu⟩
      generalize Go.Lib.ctz 64 (a ||| b) = s at *
      generalize Go.Lib.ctz 64 a = i at *
      have hgl : Nat.gcd a b ≤ a := gcd_le_odd a b (by omega)
      have hml : 2 * m + 1 ≤ a := by rw [ham]; exact Nat.le_mul_of_pos_left _ (Nat.two_pow_pos _)
      have h' := two_l0 s hs _ (2 * m + 1) b (Nat.le_refl _) (by omega) (by omega) hb (by rw [← hg]; omega)
      rw [← hg] at h'
      have h2 : Ev (fun k => euclid_two.j0 k (a : Int) (b : Int) false) ((Nat.gcd a b : Nat) : Int) := by
        refine Ev.step (fun k => ?_) h'
        simp only [euclid_two.j0]
        rw [if_neg (by decide), hor, t1]
        simp only [Option.bind_some]
        rw [t2]
        simp only [Option.bind_some]
        rw [if_pos (by omega), hm]
      refine Ev.congr (fun k => ?_) h2
      unfold euclid_two.f
      rw [if_neg (by omega), show ((b : Int) == 0) = false from by simp; omega]
end Go.Proofs.YteipfcflijdapaaDoor.N
