-- Cut for this claim by a program (wip/prune.py) out of the texts that its bench laid or wrote
import Derived.Test.YtjphoempoinedaaWideM
import Derived.Test.YtjphoempoinedaaFWideA
namespace Go.Proofs.Ytjphoempoinedaa.N
open Go Go.RowKit Go.Proofs.Ytjphoempoinedaa.F Go.Proofs.YtjphoempoinedaaW.PrintWords Go.Proofs.YtjphoempoinedaaW.PrintLast Go.Proofs.YtjphoempoinedaaW.PrintMore Go.Proofs.Ytjphoempoinedaa.Digs
set_option linter.unusedSimpArgs false
set_option linter.unusedVariables false
theorem sum_nat (ah al bh bl : Nat) (h1 : ah < 18446744073709551616) (h2 : al < 18446744073709551616) (h3 : bh < 18446744073709551616) (h4 : bl < 18446744073709551616) (s : Nat) (hs : s = (ah * 18446744073709551616 + al) + (bh * 18446744073709551616 + bl)) :
    Ev (fun k => wide_Sum.f k ah al bh bl) (if s < 340282366920938463463374607431768211456 then (((s / 18446744073709551616 : Nat) : Int), ((s % 18446744073709551616 : Nat) : Int), true) else (0, 0, false)) := by
  have hw : IntKind.u64.wrap ((al : Int) + bl) = (((al + bl) % 18446744073709551616 : Nat) : Int) := by rw [u64_mod]; omega
  unfold wide_Sum.f
  rw [add_nat ah bh h1 h3, hw]
  clear hw
  simp only [Option.bind_some]
  by_cases ho : ah + bh < 18446744073709551616
  · rw [if_pos ho]
    by_cases hc : (((al + bl) % 18446744073709551616 : Nat) : Int) < al
    · have ha := add_nat (ah + bh) 1 ho (by decide)
      refine ⟨1, fun k hk => ?_⟩
      obtain ⟨k, rfl⟩ : ∃ m, k = m + 1 := ⟨k - 1, by omega⟩
      simp only [if_true, wide_Sum.j0, decide_eq_true hc]
      have e : ((1 : Nat) : Int) = 1 := rfl
      rw [e] at ha
      rw [ha]
      simp only [Option.bind_some]
      by_cases hs1 : ah + bh + 1 < 18446744073709551616
      · have hlt : s < 340282366920938463463374607431768211456 := by clear ha; omega
        have e1 : s / 18446744073709551616 = ah + bh + 1 := by clear ha; omega
        have e2 : s % 18446744073709551616 = (al + bl) % 18446744073709551616 := by clear ha; omega
        rw [if_pos hs1, if_pos hlt, e1, e2]
        simp only [if_true]
      · have hge : ¬ s < 340282366920938463463374607431768211456 := by clear ha; omega
        rw [if_neg hs1, if_neg hge]
        simp only [Bool.false_eq_true, if_false]
    · have hlt : s < 340282366920938463463374607431768211456 := by omega
      have e1 : s / 18446744073709551616 = ah + bh := by omega
      have e2 : s % 18446744073709551616 = (al + bl) % 18446744073709551616 := by omega
      refine ⟨1, fun k hk => ?_⟩
      obtain ⟨k, rfl⟩ : ∃ m, k = m + 1 := ⟨k - 1, by omega⟩
      rw [if_pos hlt, e1, e2]
      simp only [if_true, wide_Sum.j0, decide_eq_false hc, Bool.false_eq_true, if_false]
  · have hge : ¬ s < 340282366920938463463374607431768211456 := by omega
    rw [if_neg ho]
    refine ⟨1, fun k hk => ?_⟩
    obtain ⟨k, rfl⟩ : ∃ m, k = m + 1 := ⟨k - 1, by omega⟩
    rw [if_neg hge]
    simp only [wide_Sum.j0, Bool.false_eq_true, if_false]
end Go.Proofs.Ytjphoempoinedaa.N
