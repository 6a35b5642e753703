-- Cut for this claim by a program (wip/prune.py) out of the texts that its bench laid or wrote
import Derived.Test.YteipfcflijdapaaDoorCmp
import Derived.Test.YteipfcflijdapaaDoorEuclidI
import Derived.Test.YteipfcflijdapaaDoorFLaw02alive
namespace Go.Proofs.YteipfcflijdapaaDoor.N
open Go Go.RowKit Go.Proofs.YteipfcflijdapaaDoor.F Go.Proofs.YteipfcflijdapaaDoorW.PrintWords Go.Proofs.YteipfcflijdapaaDoorW.PrintLast Go.Proofs.YteipfcflijdapaaDoorW.PrintMore Go.Proofs.YteipfcflijdapaaDoor.Digs
set_option linter.unusedSimpArgs false
set_option linter.unusedVariables false
theorem word_of {x : Int} (h : (Lit.int .u64 x).wf = true) : ∃ n : Nat, x = (n : Int) ∧ n < 18446744073709551616 := by
  have h2 : 0 ≤ x ∧ x ≤ 18446744073709551615 := by simpa [Lit.wf, IntKind.min, IntKind.max, IntKind.signed, IntKind.bits] using h
  exact ⟨x.toNat, by omega, by omega⟩
theorem words_pair (a b : Nat) (ha : a < 18446744073709551616) (hb : b < 18446744073709551616) : Words [a, b] := by
  intro n hn
  simp only [List.mem_cons, List.not_mem_nil, or_false] at hn
  rcases hn with rfl | rfl <;> assumption
theorem alive02_ev : Ev (fun k => tombolalaw02_alive.f k) true := by
  have h1 := lcm_ev [12, 18] (words_pair 12 18 (by omega) (by omega)) (by decide)
  have h2 := gcdAll_ev [12, 18] (words_pair 12 18 (by omega) (by omega)) (by decide)
  have h3 := gcdAll_ev [] (by intro n hn; cases hn) (by decide)
  obtain ⟨r1, e1, o1⟩ := inverse_ev 3 7 (by omega) (by omega)
  obtain ⟨r2, e2, o2⟩ := inverse_ev 3 6 (by omega) (by omega)
  have g1 : Nat.gcd 3 7 = 1 := by decide
  have g2 : ¬ Nat.gcd 3 6 = 1 := by decide
  unfold InvOk at o1 o2
  rw [if_pos g1] at o1
  rw [if_neg g2] at o2
  obtain ⟨i, rfl, hi, hi2⟩ := o1
  obtain rfl : i = 5 := by omega
  subst o2
  have v1 : nb (lcmAll [12, 18]) = (36, true) := by decide
  have v2 : (([12, 18] : List Nat).foldl Nat.gcd 0 : Nat) = 6 := by decide
  rw [v1] at h1
  rw [v2] at h2
  unfold tombolalaw02_alive.f
  refine Ev.bind h1 (Ev.bind e1 (Ev.bind e2 (Ev.bind h2 ?_)))
  have h4 := Ev.bind h3 (f := fun _ t114 => some (t114 == 0)) (Ev.now _)
  exact h4
end Go.Proofs.YteipfcflijdapaaDoor.N
