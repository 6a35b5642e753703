-- Cut for this claim by a program (wip/prune.py) out of the texts that its bench laid or wrote
import Derived.Test.YteipfcflijdapaaDoorCtz
import Derived.Test.YteipfcflijdapaaDoorFRef02A
section
namespace Go.Proofs.YteipfcflijdapaaDoor.N
open Go Go.RowKit Go.Proofs.YteipfcflijdapaaDoor.F Go.Proofs.YteipfcflijdapaaDoorW.PrintWords Go.Proofs.YteipfcflijdapaaDoorW.PrintLast Go.Proofs.YteipfcflijdapaaDoorW.PrintMore Go.Proofs.YteipfcflijdapaaDoor.Digs
set_option linter.unusedSimpArgs false
set_option linter.unusedVariables false
theorem tdiv_nat (a b : Nat) : Int.tdiv (a : Int) (b : Int) = ((a / b : Nat) : Int) := by rw [Int.tdiv_eq_ediv_of_nonneg (Int.natCast_nonneg _)]; rfl
theorem tmod_nat (a b : Nat) : Int.tmod (a : Int) (b : Int) = ((a % b : Nat) : Int) := by rw [Int.tmod_eq_emod_of_nonneg (Int.natCast_nonneg _)]; rfl
theorem u64n (n : Nat) (h : n < 18446744073709551616) : IntKind.u64.wrap (n : Int) = (n : Int) := u64w (by omega) (by omega)
theorem gcd_word (a b : Nat) (ha : a < 18446744073709551616) (hb : b < 18446744073709551616) : Nat.gcd a b < 18446744073709551616 := by
  by_cases h : a = 0
  · subst h; rw [Nat.gcd_zero_left]; exact hb
  · exact Nat.lt_of_le_of_lt (Nat.le_of_dvd (by omega) (Nat.gcd_dvd_left _ _)) ha
theorem rgcd_l0 (N : Nat) : ∀ (a b : Nat), b ≤ N → Ev (fun k => tombolaref02_Gcd.l0 k (a : Int) (b : Int)) ((Nat.gcd a b : Nat) : Int) := by
  induction N with
  | zero =>
    intro a b h
    obtain rfl : b = 0 := by omega
    refine Ev.step (f := fun _ => some _) (fun k => ?_) (Ev.now _)
    simp only [tombolaref02_Gcd.l0]
    rw [if_neg (by omega), Nat.gcd_zero_right]
  | succ N ih =>
    intro a b h
    by_cases hb : b = 0
    · subst hb
      refine Ev.step (f := fun _ => some _) (fun k => ?_) (Ev.now _)
      simp only [tombolaref02_Gcd.l0]
      rw [if_neg (by omega), Nat.gcd_zero_right]
    · have hlt : a % b < b := Nat.mod_lt _ (by omega)
      have h' := ih b (a % b) (by omega)
      have e : Nat.gcd b (a % b) = Nat.gcd a b := by rw [Nat.gcd_comm a b, Nat.gcd_rec b a, Nat.gcd_comm]
      rw [e] at h'
      refine Ev.step (fun k => ?_) h'
      simp only [tombolaref02_Gcd.l0]
      rw [if_pos (by omega), if_neg (by omega), tmod_nat]
theorem rgcd_ev (a b : Nat) : Ev (fun k => tombolaref02_Gcd.f k (a : Int) (b : Int)) ((Nat.gcd a b : Nat) : Int) := rgcd_l0 b a b (Nat.le_refl _)
end Go.Proofs.YteipfcflijdapaaDoor.N
end
section
namespace Go.Proofs.YteipfcflijdapaaDoor.N
open Go Go.RowKit Go.Proofs.YteipfcflijdapaaDoor.F Go.Proofs.YteipfcflijdapaaDoorW.PrintWords Go.Proofs.YteipfcflijdapaaDoorW.PrintLast Go.Proofs.YteipfcflijdapaaDoorW.PrintMore Go.Proofs.YteipfcflijdapaaDoor.Digs
set_option linter.unusedSimpArgs false
set_option linter.unusedVariables false
theorem wd (n : Nat) (h : n < 18446744073709551616) : Wd (n : Int) := ⟨by omega, by omega⟩
theorem mul_nat (a b : Nat) (ha : a < 18446744073709551616) (hb : b < 18446744073709551616) :
    wide_Mul.f a b = some (if a * b < 18446744073709551616 then (((a * b : Nat) : Int), true) else (0, false)) := by
  rw [mulw_eq (wd a ha) (wd b hb), ← Int.natCast_mul]
  by_cases h : a * b < 18446744073709551616
  · rw [if_pos h, if_pos (by omega)]
  · rw [if_neg h, if_neg (by omega)]
end Go.Proofs.YteipfcflijdapaaDoor.N
end
section
namespace Go.Proofs.YteipfcflijdapaaDoor.N
open Go Go.RowKit Go.Proofs.YteipfcflijdapaaDoor.F Go.Proofs.YteipfcflijdapaaDoorW.PrintWords Go.Proofs.YteipfcflijdapaaDoorW.PrintLast Go.Proofs.YteipfcflijdapaaDoorW.PrintMore Go.Proofs.YteipfcflijdapaaDoor.Digs
set_option linter.unusedSimpArgs false
set_option linter.unusedVariables false
def ofN (m : List Nat) : List Int := m.map fun (n : Nat) => (n : Int)
def Words (m : List Nat) : Prop := ∀ n, n ∈ m → n < 18446744073709551616
theorem ofN_length (m : List Nat) : (ofN m).length = m.length := by simp [ofN]
theorem ofN_of (l : List Int) (h : ∀ x, x ∈ l → (Lit.int .u64 x).wf = true) : ∃ m, l = ofN m ∧ Words m := by
  refine ⟨l.map Int.toNat, ?_, ?_⟩
  · unfold ofN
    rw [List.map_map]
    conv => lhs; rw [← List.map_id l]
    refine List.map_congr_left fun x hx => ?_
    have h2 : 0 ≤ x ∧ x ≤ 18446744073709551615 := by simpa [Lit.wf, IntKind.min, IntKind.max, IntKind.signed, IntKind.bits] using h x hx
    simp; omega
  · intro n hn
    obtain ⟨x, hx, rfl⟩ := List.mem_map.1 hn
    have h2 : 0 ≤ x ∧ x ≤ 18446744073709551615 := by simpa [Lit.wf, IntKind.min, IntKind.max, IntKind.signed, IntKind.bits] using h x hx
    omega
theorem rd_ofN (m : List Nat) (j : Nat) : rd (ofN m) (j : Int) = ((m.getD j 0 : Nat) : Int) := by
  simp only [rd, Int.toNat_natCast, ofN, List.getD_eq_getElem?_getD, List.getElem?_map]
  cases m[j]? <;> rfl
theorem words_get {m : List Nat} (h : Words m) (j : Nat) : m.getD j 0 < 18446744073709551616 := by
  rw [List.getD_eq_getElem?_getD]
  cases hj : m[j]? with
  | none => simp
  | some x => exact h x (List.mem_of_getElem? hj)
def pre (m : List Nat) (j : Nat) : Nat := (m.take j).sum
end Go.Proofs.YteipfcflijdapaaDoor.N
end
