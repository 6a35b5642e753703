-- Cut for this claim by a program (wip/prune.py) out of the texts that its bench laid or wrote
import Derived.Test.YteipfcflijdapaaDoorEuclidM
import Derived.Test.YteipfcflijdapaaDoorFEuclidA
namespace Go.Proofs.YteipfcflijdapaaDoor.N
open Go Go.RowKit Go.Proofs.YteipfcflijdapaaDoor.F Go.Proofs.YteipfcflijdapaaDoorW.PrintWords Go.Proofs.YteipfcflijdapaaDoorW.PrintLast Go.Proofs.YteipfcflijdapaaDoorW.PrintMore Go.Proofs.YteipfcflijdapaaDoor.Digs
set_option linter.unusedSimpArgs false
set_option linter.unusedVariables false
def minusN (x less m : Nat) : Nat := if less ≤ x then x - less else x + (m - less)
theorem minus_eq (x less m : Nat) (hx : x < m) (hl : less < m) (hm : m < 18446744073709551616) : euclid_minus.f x less m = some ((minusN x less m : Nat) : Int) := by
  unfold euclid_minus.f minusN
  by_cases h : less ≤ x
  · rw [if_pos (by omega), if_pos h, show ((x : Int) - (less : Int)) = ((x - less : Nat) : Int) from by omega, u64n _ (by omega)]
  · rw [if_neg (by omega), if_neg h, show ((m : Int) - (less : Int)) = ((m - less : Nat) : Int) from by omega, u64n _ (by omega), show ((x : Int) + ((m - less : Nat) : Int)) = ((x + (m - less) : Nat) : Int) from by omega, u64n _ (by omega)]
theorem minus_lt (x less m : Nat) (hx : x < m) (hl : less < m) : minusN x less m < m := by unfold minusN; split <;> omega
theorem minus_int (x less m : Nat) (hl : less < m) : ∃ c : Int, ((minusN x less m : Nat) : Int) = (x : Int) - (less : Int) + (m : Int) * c := by
  unfold minusN
  split
  · exact ⟨0, by omega⟩
  · exact ⟨1, by omega⟩
theorem inv_step (a m r s x y q less y' : Int) (u v c t : Int) (h1 : x * a - r = m * u) (h2 : y * a - s = m * v) (h3 : less = q * y - m * t) (h4 : y' = x - less + m * c) :
    y' * a - (r - q * s) = m * (u - q * v + t * a + c * a) := by
  subst h3 h4
  grind
def InvOk (a m G : Nat) (res : Int × Bool) : Prop :=
  if G = 1 then ∃ i : Nat, res = ((i : Int), true) ∧ i < m ∧ a * i % m = 1 else res = (0, false)
theorem inv_l0 (a m G : Nat) (hm : 2 ≤ m) (hm1 : m < 18446744073709551616) (N : Nat) : ∀ (r s x y : Nat), s ≤ N → r < 18446744073709551616 → s < 18446744073709551616 → x < m → y < m → Nat.gcd r s = G →
    (∃ u : Int, (x : Int) * a - r = m * u) → (∃ v : Int, (y : Int) * a - s = m * v) → ∃ res, Ev (fun k => euclid_Inverse.l0 k m r s x y) res ∧ InvOk a m G res := by
  have last : ∀ (r x y : Nat), r < 18446744073709551616 → x < m → Nat.gcd r 0 = G → (∃ u : Int, (x : Int) * a - r = m * u) → ∃ res, Ev (fun k => euclid_Inverse.l0 k m r (0 : Nat) x y) res ∧ InvOk a m G res := by
    intro r x y hr hx hG hu
    rw [Nat.gcd_zero_right] at hG
    subst hG
    by_cases h1 : r = 1
    · subst h1
      refine ⟨((x : Int), true), Ev.step (f := fun _ => some _) (fun k => ?_) (Ev.now _), ?_⟩
      · simp only [euclid_Inverse.l0]
        rw [if_neg (by omega), if_pos (by omega), if_neg (by omega), tmod_nat, Nat.mod_eq_of_lt hx]
      · unfold InvOk
        rw [if_pos rfl]
        refine ⟨x, rfl, hx, ?_⟩
        obtain ⟨u, hu⟩ := hu
        have e : ((a * x : Nat) : Int) = 1 + (m : Int) * u := by rw [Int.natCast_mul, Int.mul_comm]; omega
        have e2 : ((a * x % m : Nat) : Int) = 1 := by
          rw [Int.natCast_emod, e, Int.add_mul_emod_self_left]
          exact Int.emod_eq_of_lt (by omega) (by omega)
        omega
    · refine ⟨(0, false), Ev.step (f := fun _ => some _) (fun k => ?_) (Ev.now _), ?_⟩
      · simp only [euclid_Inverse.l0]
        rw [if_neg (by omega), if_neg (by omega)]
      · unfold InvOk
        rw [if_neg h1]
  induction N with
  | zero =>
    intro r s x y hs hr _ hx hy hG hu hv
    obtain rfl : s = 0 := by omega
    exact last r x y hr hx hG hu
  | succ N ih =>
    intro r s x y hs hr hs64 hx hy hG hu hv
    by_cases h0 : s = 0
    · subst h0
      exact last r x y hr hx hG hu
    · have hlt : r % s < s := Nat.mod_lt _ (by omega)
      have hq : r / s ≤ r := Nat.div_le_self _ _
      have hless : r / s * y % m < m := Nat.mod_lt _ (by omega)
      have hmm := mulMod_ev (r / s) y m (by omega) (by omega) (by omega) hm1
      have hmin := minus_eq x _ m hx hless hm1
      have hG' : Nat.gcd s (r % s) = G := by rw [← hG, Nat.gcd_comm r s, Nat.gcd_rec s r, Nat.gcd_comm]
      have hv' : ∃ v : Int, ((minusN x (r / s * y % m) m : Nat) : Int) * a - ((r % s : Nat) : Int) = m * v := by
        obtain ⟨u, hu⟩ := hu
        obtain ⟨v, hv⟩ := hv
        obtain ⟨c, hc⟩ := minus_int x (r / s * y % m) m hless
        have e1 : ((r / s * y % m : Nat) : Int) = ((r / s : Nat) : Int) * (y : Int) - (m : Int) * ((r / s * y / m : Nat) : Int) := by
          have := Nat.div_add_mod (r / s * y) m
          have h2 : ((m * (r / s * y / m) + r / s * y % m : Nat) : Int) = ((r / s * y : Nat) : Int) := congrArg _ this
          rw [Int.natCast_add, Int.natCast_mul, Int.natCast_mul] at h2
          omega
        have e2 : ((r % s : Nat) : Int) = (r : Int) - ((r / s : Nat) : Int) * (s : Int) := by
          have := Nat.div_add_mod r s
          have h2 : ((s * (r / s) + r % s : Nat) : Int) = (r : Int) := congrArg _ this
          rw [Int.natCast_add, Int.natCast_mul, Int.mul_comm] at h2
          omega
        rw [e2]
        exact ⟨_, inv_step a m r s x y _ _ _ u v c _ hu hv e1 hc⟩
      obtain ⟨res, hres, hok⟩ := ih s (r % s) y (minusN x (r / s * y % m) m) (by omega) hs64 (by omega) hy (minus_lt _ _ _ hx hless) hG' hv hv'
      refine ⟨res, ?_, hok⟩
      refine Ev.step (fun k => ?_) (Ev.bind hmm (f := fun k bt101 => (euclid_minus.f x bt101.1 m).bind fun t103 => euclid_Inverse.l0 k m s ((r % s : Nat) : Int) y t103) (Ev.congr (fun k => by rw [hmin]; rfl) hres))
      simp only [euclid_Inverse.l0]
      rw [if_pos (by omega), if_neg (by omega), tdiv_nat, tmod_nat, u64n _ (by omega)]
theorem inverse_small (a m : Nat) (hm : m < 2) : Ev (fun k => euclid_Inverse.f k a m) (0, false) := by
  refine Ev.congr (fun k => ?_) (Ev.now _)
  unfold euclid_Inverse.f
  rw [if_pos (by omega)]
theorem inverse_ev (a m : Nat) (hm : 2 ≤ m) (hm1 : m < 18446744073709551616) : ∃ res, Ev (fun k => euclid_Inverse.f k a m) res ∧ InvOk a m (Nat.gcd a m) res := by
  have hlt : a % m < m := Nat.mod_lt _ (by omega)
  obtain ⟨res, hres, hok⟩ := inv_l0 a m (Nat.gcd a m) hm hm1 _ m (a % m) 0 1 (Nat.le_refl _) hm1 (by omega) (by omega) (by omega) (by rw [Nat.gcd_comm a m, Nat.gcd_rec m a, Nat.gcd_comm]) ⟨-1, by omega⟩ (by
    refine ⟨((a / m : Nat) : Int), ?_⟩
    have := Nat.div_add_mod a m
    have h2 : ((m * (a / m) + a % m : Nat) : Int) = (a : Int) := congrArg _ this
    rw [Int.natCast_add, Int.natCast_mul] at h2
    omega)
  refine ⟨res, Ev.congr (fun k => ?_) hres, hok⟩
  unfold euclid_Inverse.f
  rw [if_neg (by omega), if_neg (by omega), tmod_nat]
  rfl
end Go.Proofs.YteipfcflijdapaaDoor.N
