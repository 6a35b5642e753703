-- Cut for this claim by a program (wip/prune.py) out of the texts that its bench laid or wrote
import Derived.Test.YteipfcflijdapaaDoorCmp
import Derived.Test.YteipfcflijdapaaDoorDiv
import Derived.Test.YteipfcflijdapaaDoorCtz
import Derived.Test.YteipfcflijdapaaDoorFEuclidA
import Derived.Test.YteipfcflijdapaaDoorFRef02A
section
namespace Go.Proofs.YteipfcflijdapaaDoor.N
open Go Go.RowKit Go.Proofs.YteipfcflijdapaaDoor.F Go.Proofs.YteipfcflijdapaaDoorW.PrintWords Go.Proofs.YteipfcflijdapaaDoorW.PrintLast Go.Proofs.YteipfcflijdapaaDoorW.PrintMore Go.Proofs.YteipfcflijdapaaDoor.Digs
set_option linter.unusedSimpArgs false
set_option linter.unusedVariables false
theorem full_n (a b : Nat) (ha : a < 18446744073709551616) (hb : b < 18446744073709551616) : wide_Full.f a b = some (((a * b / 18446744073709551616 : Nat) : Int), ((a * b % 18446744073709551616 : Nat) : Int)) := by
  rw [full_eq ⟨by omega, by omega⟩ ⟨by omega, by omega⟩, ← Int.natCast_mul]
  congr 1
theorem prod_hi (a b : Nat) (ha : a < 18446744073709551616) (hb : b < 18446744073709551616) : a * b / 18446744073709551616 < 18446744073709551616 := by
  rw [Nat.div_lt_iff_lt_mul (by omega)]
  exact Nat.lt_of_le_of_lt (Nat.mul_le_mul (show a ≤ 18446744073709551615 by omega) (show b ≤ 18446744073709551615 by omega)) (by decide)
theorem mulMod_ev (a b m : Nat) (ha : a < 18446744073709551616) (hb : b < 18446744073709551616) (hm : 0 < m) (hm1 : m < 18446744073709551616) :
    Ev (fun k => euclid_MulMod.f k a b m) (((a * b % m : Nat) : Int), true) := by
  unfold euclid_MulMod.f
  rw [full_n a b ha hb]
  simp only [Option.bind_some]
  have h := divw_ev (a * b / 18446744073709551616) (a * b % 18446744073709551616) m (prod_hi a b ha hb) (Nat.mod_lt _ (by omega)) hm hm1
  have e : a * b / 18446744073709551616 * 18446744073709551616 + a * b % 18446744073709551616 = a * b := by omega
  rw [e] at h
  exact Ev.bind h (Ev.now _)
theorem mulMod_zero (a b : Nat) (ha : a < 18446744073709551616) (hb : b < 18446744073709551616) : Ev (fun k => euclid_MulMod.f k a b 0) (0, false) := by
  refine Ev.congr (fun k => ?_) (Ev.now _)
  unfold euclid_MulMod.f
  rw [full_n a b ha hb]
  simp only [Option.bind_some]
  unfold wide_Div.f
  rw [if_pos rfl]; rfl
theorem rmulMod_ev (a b m : Nat) (ha : a < 18446744073709551616) (hb : b < 18446744073709551616) (hm : 0 < m) (hm1 : m < 18446744073709551616) :
    Ev (fun k => tombolaref02_MulMod.f k a b m) ((a * b % m : Nat) : Int) := by
  unfold tombolaref02_MulMod.f
  have la := u64_len ha
  have lb := u64_len hb
  have lm := u64_len hm1
  have hlt : a * b % m < m := Nat.mod_lt _ hm
  have hp : (digs (a * b)).length ≤ 8 := (digs_len_le _ 8).2 (by
    have h1 := Nat.mul_le_mul (show a ≤ 18446744073709551615 by omega) (show b ≤ 18446744073709551615 by omega)
    have h2 : 18446744073709551615 * 18446744073709551615 < 65536 ^ 8 := by decide
    omega)
  refine Ev.bind (of_ev a ha) (Ev.bind (of_ev b hb) (Ev.bind (mul_ev a b (by omega) (by omega)) (Ev.bind (of_ev m hm1) (Ev.bind (div_ev (a * b) m hm (by omega) (by omega)) (Ev.bind (word_ev _ (by omega)) (Ev.now _))))))
theorem pow_even (a n : Nat) (hn : n % 2 = 0) : a ^ n = (a * a) ^ (n / 2) := by
  have e : n = 2 * (n / 2) := by omega
  conv => lhs; rw [e, Nat.pow_mul, Nat.pow_two]
theorem pow_odd (a n : Nat) (hn : n % 2 = 1) : a ^ n = a * (a * a) ^ (n / 2) := by
  have e : n = 2 * (n / 2) + 1 := by omega
  conv => lhs; rw [e, Nat.pow_succ, Nat.pow_mul, Nat.pow_two, Nat.mul_comm]
theorem mod_mul_pow (x a m q : Nat) : x * (a % m) ^ q % m = x * a ^ q % m := by
  rw [Nat.mul_mod, ← Nat.pow_mod, ← Nat.mul_mod]
theorem pow_l0 (m : Nat) (hm : 0 < m) (hm1 : m < 18446744073709551616) (N : Nat) : ∀ (n a x : Nat), n ≤ N → n < 18446744073709551616 → a < 18446744073709551616 → x < m →
    Ev (fun k => euclid_PowMod.l0 k a n m x) (((x * a ^ n % m : Nat) : Int), true) := by
  induction N with
  | zero =>
    intro n a x hn _ _ hx
    obtain rfl : n = 0 := by omega
    refine Ev.step (f := fun _ => some _) (fun k => ?_) (Ev.now _)
    simp only [euclid_PowMod.l0]
    rw [if_neg (by omega), Nat.pow_zero, Nat.mul_one, Nat.mod_eq_of_lt hx]
  | succ N ih =>
    intro n a x hn hn64 ha hx
    by_cases h0 : n = 0
    · subst h0
      refine Ev.step (f := fun _ => some _) (fun k => ?_) (Ev.now _)
      simp only [euclid_PowMod.l0]
      rw [if_neg (by omega), Nat.pow_zero, Nat.mul_one, Nat.mod_eq_of_lt hx]
    · have hd : ((n : Int) / 2) = ((n / 2 : Nat) : Int) := rfl
      have hsq := mulMod_ev a a m ha ha hm hm1
      have hlt : a * a % m < m := Nat.mod_lt _ hm
      by_cases hodd : n % 2 = 1
      · have hxm := mulMod_ev x a m (by omega) ha hm hm1
        have hx' : x * a % m < m := Nat.mod_lt _ hm
        have h' := ih (n / 2) (a * a % m) (x * a % m) (by omega) (by omega) (by omega) hx'
        have e : x * a % m * (a * a % m) ^ (n / 2) % m = x * a ^ n % m := by
          rw [mod_mul_pow, pow_odd a n hodd, ← Nat.mul_assoc, Nat.mod_mul_mod]
        rw [e] at h'
        refine Ev.step (fun k => ?_) (Ev.bind hxm (f := fun k bt101 => (euclid_MulMod.f k a a m).bind fun bt103 => euclid_PowMod.l0 k bt103.1 ((n / 2 : Nat) : Int) m bt101.1) (Ev.bind hsq (f := fun k bt103 => euclid_PowMod.l0 k bt103.1 ((n / 2 : Nat) : Int) m ((x * a % m : Nat) : Int)) h'))
        simp only [euclid_PowMod.l0]
        rw [if_pos (by omega), and1N n hn64, if_pos (by omega), hd]
      · have h' := ih (n / 2) (a * a % m) x (by omega) (by omega) (by omega) hx
        have e : x * (a * a % m) ^ (n / 2) % m = x * a ^ n % m := by
          rw [mod_mul_pow, pow_even a n (by omega)]
        rw [e] at h'
        refine Ev.step (fun k => ?_) (Ev.bind hsq (f := fun k bt105 => euclid_PowMod.l0 k bt105.1 ((n / 2 : Nat) : Int) m x) h')
        simp only [euclid_PowMod.l0]
        rw [if_pos (by omega), and1N n hn64, if_neg (by omega), hd]
theorem powMod_ev (a n m : Nat) (ha : a < 18446744073709551616) (hn : n < 18446744073709551616) (hm : 0 < m) (hm1 : m < 18446744073709551616) :
    Ev (fun k => euclid_PowMod.f k a n m) (((a ^ n % m : Nat) : Int), true) := by
  have hlt : 1 % m < m := Nat.mod_lt _ hm
  have hle : a % m ≤ a := Nat.mod_le _ _
  have h := pow_l0 m hm hm1 n n (a % m) (1 % m) (Nat.le_refl _) hn (by omega) hlt
  have e : 1 % m * (a % m) ^ n % m = a ^ n % m := by rw [mod_mul_pow, Nat.mod_mul_mod, Nat.one_mul]
  rw [e] at h
  refine Ev.congr (fun k => ?_) h
  unfold euclid_PowMod.f
  rw [if_neg (by omega), tmod_nat]
  rfl
theorem rpow_l0 (a n m : Nat) (ha : a < 18446744073709551616) (hn : n < 18446744073709551616) (hm : 0 < m) (hm1 : m < 18446744073709551616) (i : Nat) : i ≤ 64 →
    Ev (fun k => tombolaref02_PowMod.l0 k a n m ((a ^ (n / 2 ^ i) % m : Nat) : Int) ((i : Int) - 1)) ((a ^ n % m : Nat) : Int) := by
  induction i with
  | zero =>
    intro _
    refine Ev.step (f := fun _ => some _) (fun k => ?_) (Ev.now _)
    simp only [tombolaref02_PowMod.l0]
    rw [if_neg (by omega), Nat.pow_zero, Nat.div_one]
  | succ i ih =>
    intro hi
    have h' := ih (by omega)
    have hP : a ^ (n / 2 ^ (i + 1)) % m < m := Nat.mod_lt _ hm
    have hsq := rmulMod_ev _ _ m (Nat.lt_trans hP hm1) (Nat.lt_trans hP hm1) hm hm1
    have hq : n / 2 ^ (i + 1) = n / 2 ^ i / 2 := by rw [Nat.pow_succ, Nat.div_div_eq_div_mul]
    have e1 : ((i + 1 : Nat) : Int) - 1 = ((i : Nat) : Int) := by omega
    have e2 : IntKind.u64.wrap ((i : Nat) : Int) = ((i : Nat) : Int) := u64n i (by omega)
    have c1 : (0 : Int) ≤ ((i : Nat) : Int) := by omega
    have e3 : wrap64 ((i : Int) - 1) = (i : Int) - 1 := i64w (by omega) (by omega)
    have e4 : Int.tmod (shr .u64 (n : Int) ((i : Nat) : Int)) 2 = ((n / 2 ^ i % 2 : Nat) : Int) := by rw [shr_eq n i (by omega)]; exact tmod_nat _ 2
    have s : a ^ (n / 2 ^ (i + 1)) % m * (a ^ (n / 2 ^ (i + 1)) % m) % m = a ^ (2 * (n / 2 ^ i / 2)) % m := by
      rw [← Nat.mul_mod, hq, ← Nat.pow_add, Nat.two_mul]
    rw [s] at hsq
    have hS : a ^ (2 * (n / 2 ^ i / 2)) % m < m := Nat.mod_lt _ hm
    by_cases hodd : n / 2 ^ i % 2 = 1
    · have hmul := rmulMod_ev _ a m (Nat.lt_trans hS hm1) ha hm hm1
      have t : a ^ (2 * (n / 2 ^ i / 2)) % m * a % m = a ^ (n / 2 ^ i) % m := by
        rw [Nat.mod_mul_mod, ← Nat.pow_succ, show (2 * (n / 2 ^ i / 2)).succ = n / 2 ^ i from by omega]
      rw [t] at hmul
      refine Ev.step (fun k => ?_) (Ev.bind hsq (f := fun k t101 => (tombolaref02_MulMod.f k t101 a m).bind fun t102 => tombolaref02_PowMod.l0 k a n m t102 ((i : Int) - 1)) (Ev.bind hmul (f := fun k t102 => tombolaref02_PowMod.l0 k a n m t102 ((i : Int) - 1)) h'))
      simp only [tombolaref02_PowMod.l0]
      rw [e1, if_pos (by omega)]
      simp only [e2, if_pos c1, e4, hodd, if_pos (show ((1 : Nat) : Int) = 1 from rfl), e3]
    · have t : 2 * (n / 2 ^ i / 2) = n / 2 ^ i := by omega
      rw [t] at hsq
      refine Ev.step (fun k => ?_) (Ev.bind hsq (f := fun k t101 => tombolaref02_PowMod.l0 k a n m t101 ((i : Int) - 1)) h')
      simp only [tombolaref02_PowMod.l0]
      rw [e1, if_pos (by omega)]
      simp only [e2, if_pos c1, e4, show n / 2 ^ i % 2 = 0 from by omega, if_neg (show ¬ ((0 : Nat) : Int) = 1 from by decide), e3]
theorem rpowMod_ev (a n m : Nat) (ha : a < 18446744073709551616) (hn : n < 18446744073709551616) (hm : 0 < m) (hm1 : m < 18446744073709551616) :
    Ev (fun k => tombolaref02_PowMod.f k a n m) ((a ^ n % m : Nat) : Int) := by
  have h := rpow_l0 a n m ha hn hm hm1 64 (Nat.le_refl _)
  have e : n / 2 ^ 64 = 0 := Nat.div_eq_of_lt (by simpa using hn)
  rw [e, Nat.pow_zero] at h
  refine Ev.congr (fun k => ?_) h
  unfold tombolaref02_PowMod.f
  rw [if_neg (by omega)]
  rfl
end Go.Proofs.YteipfcflijdapaaDoor.N
end
section
namespace Go.Proofs.YteipfcflijdapaaDoor.N
open Go Go.RowKit Go.Proofs.YteipfcflijdapaaDoor.F Go.Proofs.YteipfcflijdapaaDoorW.PrintWords Go.Proofs.YteipfcflijdapaaDoorW.PrintLast Go.Proofs.YteipfcflijdapaaDoorW.PrintMore Go.Proofs.YteipfcflijdapaaDoor.Digs
set_option linter.unusedSimpArgs false
set_option linter.unusedVariables false
def minusN (x less m : Nat) : Nat := if less ≤ x then x - less else x + (m - less)
theorem minus_eq (x less m : Nat) (hx : x < m) (hl : less < m) (hm : m < 18446744073709551616) : euclid_minus.f x less m = some ((minusN x less m : Nat) : Int) := by
  unfold euclid_minus.f minusN
  by_cases h : less ≤ x
  · rw [if_pos (by omega), if_pos h, show ((x : Int) - (less : Int)) = ((x - less : Nat) : Int) from by omega, u64n _ (by omega)]
  · rw [if_neg (by omega), if_neg h, show ((m : Int) - (less : Int)) = ((m - less : Nat) : Int) from by omega, u64n _ (by omega), show ((x : Int) + ((m - less : Nat) : Int)) = ((x + (m - less) : Nat) : Int) from by omega, u64n _ (by omega)]
theorem minus_lt (x less m : Nat) (hx : x < m) (hl : less < m) : minusN x less m < m := by unfold minusN; split <;> omega
theorem minus_int (x less m : Nat) (hl : less < m) : ∃ c : Int, ((minusN x less m : Nat) : Int) = (x : Int) - (less : Int) + (m : Int) * c := by
  unfold minusN
  split
  · exact ⟨0, by omega⟩
  · exact ⟨1, by omega⟩
theorem inv_step (a m r s x y q less y' : Int) (u v c t : Int) (h1 : x * a - r = m * u) (h2 : y * a - s = m * v) (h3 : less = q * y - m * t) (h4 : y' = x - less + m * c) :
    y' * a - (r - q * s) = m * (u - q * v + t * a + c * a) := by
  subst h3 h4
  grind
def InvOk (a m G : Nat) (res : Int × Bool) : Prop :=
  if G = 1 then ∃ i : Nat, res = ((i : Int), true) ∧ i < m ∧ a * i % m = 1 else res = (0, false)
theorem inv_l0 (a m G : Nat) (hm : 2 ≤ m) (hm1 : m < 18446744073709551616) (N : Nat) : ∀ (r s x y : Nat), s ≤ N → r < 18446744073709551616 → s < 18446744073709551616 → x < m → y < m → Nat.gcd r s = G →
    (∃ u : Int, (x : Int) * a - r = m * u) → (∃ v : Int, (y : Int) * a - s = m * v) → ∃ res, Ev (fun k => euclid_Inverse.l0 k m r s x y) res ∧ InvOk a m G res := by
  have last : ∀ (r x y : Nat), r < 18446744073709551616 → x < m → Nat.gcd r 0 = G → (∃ u : Int, (x : Int) * a - r = m * u) → ∃ res, Ev (fun k => euclid_Inverse.l0 k m r (0 : Nat) x y) res ∧ InvOk a m G res := by
    intro r x y hr hx hG hu
    rw [Nat.gcd_zero_right] at hG
    subst hG
    by_cases h1 : r = 1
    · subst h1
      refine ⟨((x : Int), true), Ev.step (f := fun _ => some _) (fun k => ?_) (Ev.now _), ?_⟩
      · simp only [euclid_Inverse.l0]
        rw [if_neg (by omega), if_pos (by omega), if_neg (by omega), tmod_nat, Nat.mod_eq_of_lt hx]
      · unfold InvOk
        rw [if_pos rfl]
        refine ⟨x, rfl, hx, ?_⟩
        obtain ⟨u, hu⟩ := hu
        have e : ((a * x : Nat) : Int) = 1 + (m : Int) * u := by rw [Int.natCast_mul, Int.mul_comm]; omega
        have e2 : ((a * x % m : Nat) : Int) = 1 := by
          rw [Int.natCast_emod, e, Int.add_mul_emod_self_left]
          exact Int.emod_eq_of_lt (by omega) (by omega)
        omega
    · refine ⟨(0, false), Ev.step (f := fun _ => some _) (fun k => ?_) (Ev.now _), ?_⟩
      · simp only [euclid_Inverse.l0]
        rw [if_neg (by omega), if_neg (by omega)]
      · unfold InvOk
        rw [if_neg h1]
  induction N with
  | zero =>
    intro r s x y hs hr _ hx hy hG hu hv
    obtain rfl : s = 0 := by omega
    exact last r x y hr hx hG hu
  | succ N ih =>
    intro r s x y hs hr hs64 hx hy hG hu hv
    by_cases h0 : s = 0
    · subst h0
      exact last r x y hr hx hG hu
    · have hlt : r % s < s := Nat.mod_lt _ (by omega)
      have hq : r / s ≤ r := Nat.div_le_self _ _
      have hless : r / s * y % m < m := Nat.mod_lt _ (by omega)
      have hmm := mulMod_ev (r / s) y m (by omega) (by omega) (by omega) hm1
      have hmin := minus_eq x _ m hx hless hm1
      have hG' : Nat.gcd s (r % s) = G := by rw [← hG, Nat.gcd_comm r s, Nat.gcd_rec s r, Nat.gcd_comm]
      have hv' : ∃ v : Int, ((minusN x (r / s * y % m) m : Nat) : Int) * a - ((r % s : Nat) : Int) = m * v := by
        obtain ⟨u, hu⟩ := hu
        obtain ⟨v, hv⟩ := hv
        obtain ⟨c, hc⟩ := minus_int x (r / s * y % m) m hless
        have e1 : ((r / s * y % m : Nat) : Int) = ((r / s : Nat) : Int) * (y : Int) - (m : Int) * ((r / s * y / m : Nat) : Int) := by
          have := Nat.div_add_mod (r / s * y) m
          have h2 : ((m * (r / s * y / m) + r / s * y % m : Nat) : Int) = ((r / s * y : Nat) : Int) := congrArg _ this
          rw [Int.natCast_add, Int.natCast_mul, Int.natCast_mul] at h2
          omega
        have e2 : ((r % s : Nat) : Int) = (r : Int) - ((r / s : Nat) : Int) * (s : Int) := by
          have := Nat.div_add_mod r s
          have h2 : ((s * (r / s) + r % s : Nat) : Int) = (r : Int) := congrArg _ this
          rw [Int.natCast_add, Int.natCast_mul, Int.mul_comm] at h2
          omega
        rw [e2]
        exact ⟨_, inv_step a m r s x y _ _ _ u v c _ hu hv e1 hc⟩
      obtain ⟨res, hres, hok⟩ := ih s (r % s) y (minusN x (r / s * y % m) m) (by omega) hs64 (by omega) hy (minus_lt _ _ _ hx hless) hG' hv hv'
      refine ⟨res, ?_, hok⟩
      refine Ev.step (fun k => ?_) (Ev.bind hmm (f := fun k bt101 => (euclid_minus.f x bt101.1 m).bind fun t103 => euclid_Inverse.l0 k m s ((r % s : Nat) : Int) y t103) (Ev.congr (fun k => by rw [hmin]; rfl) hres))
      simp only [euclid_Inverse.l0]
      rw [if_pos (by omega), if_neg (by omega), tdiv_nat, tmod_nat, u64n _ (by omega)]
theorem inverse_ev (a m : Nat) (hm : 2 ≤ m) (hm1 : m < 18446744073709551616) : ∃ res, Ev (fun k => euclid_Inverse.f k a m) res ∧ InvOk a m (Nat.gcd a m) res := by
  have hlt : a % m < m := Nat.mod_lt _ (by omega)
  obtain ⟨res, hres, hok⟩ := inv_l0 a m (Nat.gcd a m) hm hm1 _ m (a % m) 0 1 (Nat.le_refl _) hm1 (by omega) (by omega) (by omega) (by rw [Nat.gcd_comm a m, Nat.gcd_rec m a, Nat.gcd_comm]) ⟨-1, by omega⟩ (by
    refine ⟨((a / m : Nat) : Int), ?_⟩
    have := Nat.div_add_mod a m
    have h2 : ((m * (a / m) + a % m : Nat) : Int) = (a : Int) := congrArg _ this
    rw [Int.natCast_add, Int.natCast_mul] at h2
    omega)
  refine ⟨res, Ev.congr (fun k => ?_) hres, hok⟩
  unfold euclid_Inverse.f
  rw [if_neg (by omega), if_neg (by omega), tmod_nat]
  rfl
end Go.Proofs.YteipfcflijdapaaDoor.N
end
