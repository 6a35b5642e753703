-- Cut for this claim by a program (wip/prune.py) out of the texts that its bench laid or wrote
import Derived.Test.YtjphoempoinedaaNat3
namespace Go.Proofs.Ytjphoempoinedaa.N
open Go Go.RowKit Go.Proofs.Ytjphoempoinedaa.F Go.Proofs.YtjphoempoinedaaW.PrintWords Go.Proofs.YtjphoempoinedaaW.PrintLast Go.Proofs.YtjphoempoinedaaW.PrintMore Go.Proofs.Ytjphoempoinedaa.Digs
set_option linter.unusedSimpArgs false
set_option linter.unusedVariables false
theorem wd (n : Nat) (h : n < 18446744073709551616) : Wd (n : Int) := ⟨by omega, by omega⟩
theorem add_nat (a b : Nat) (ha : a < 18446744073709551616) (hb : b < 18446744073709551616) :
    wide_Add.f a b = some (if a + b < 18446744073709551616 then (((a + b : Nat) : Int), true) else (0, false)) := by
  rw [addw_eq (wd a ha) (wd b hb)]
  by_cases h : a + b < 18446744073709551616
  · rw [if_pos h, if_pos (by omega), Int.natCast_add]
  · rw [if_neg h, if_neg (by omega)]
theorem mul_nat (a b : Nat) (ha : a < 18446744073709551616) (hb : b < 18446744073709551616) :
    wide_Mul.f a b = some (if a * b < 18446744073709551616 then (((a * b : Nat) : Int), true) else (0, false)) := by
  rw [mulw_eq (wd a ha) (wd b hb), ← Int.natCast_mul]
  by_cases h : a * b < 18446744073709551616
  · rw [if_pos h, if_pos (by omega)]
  · rw [if_neg h, if_neg (by omega)]
end Go.Proofs.Ytjphoempoinedaa.N
