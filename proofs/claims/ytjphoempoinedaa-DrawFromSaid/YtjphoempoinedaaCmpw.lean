import Derived.Test.YtjphoempoinedaaCmp
import Derived.Test.YtjphoempoinedaaFWideA
namespace Go.Proofs.Ytjphoempoinedaa.N
open Go Go.RowKit Go.Proofs.Ytjphoempoinedaa.F Go.Proofs.YtjphoempoinedaaW.PrintWords Go.Proofs.YtjphoempoinedaaW.PrintLast Go.Proofs.YtjphoempoinedaaW.PrintMore Go.Proofs.Ytjphoempoinedaa.Digs
set_option linter.unusedSimpArgs false
set_option linter.unusedVariables false
theorem compare_eq (a b : Nat) : cmp_Compare_uint64.f a b = some (cmpN a b) := by
  unfold cmp_Compare_uint64.f cmp_isNaN_uint64.f cmpN
  simp only [Option.bind_some, bne_self_eq_false, Bool.false_eq_true, if_false]
  by_cases h : a < b
  · rw [if_pos (by omega), if_pos h]
  · rw [if_neg (by omega), if_neg h]
    by_cases h2 : b < a
    · rw [if_pos (by omega), if_pos h2]
    · rw [if_neg (by omega), if_neg h2]
theorem or_ev (x y : Int) : Ev (fun k => cmp_Or_int.f k [x, y]) (if x = 0 then y else x) := by
  have w1 : wrap64 (0 + 1) = 1 := by unfold wrap64; omega
  have w2 : wrap64 (1 + 1) = 2 := by unfold wrap64; omega
  refine ⟨3, fun k hk => ?_⟩
  obtain ⟨k, rfl⟩ : ∃ m, k = m + 3 := ⟨k - 3, by omega⟩
  unfold cmp_Or_int.f
  simp only [cmp_Or_int.l0, List.length_cons, List.length_nil, rd, w1, w2]
  by_cases hx : x = 0
  · subst hx
    by_cases hy : y = 0
    · subst hy; simp
    · simp [hy]
  · simp [hx]
theorem cmpw_ev (ah al bh bl : Nat) (h2 : al < 18446744073709551616) (h4 : bl < 18446744073709551616) :
    Ev (fun k => wide_Cmp.f k ah al bh bl) (cmpN (ah * 18446744073709551616 + al) (bh * 18446744073709551616 + bl)) := by
  unfold wide_Cmp.f
  rw [compare_eq ah bh, compare_eq al bl]
  simp only [Option.bind_some]
  have h := or_ev (cmpN ah bh) (cmpN al bl)
  have e : (if cmpN ah bh = 0 then cmpN al bl else cmpN ah bh) = cmpN (ah * 18446744073709551616 + al) (bh * 18446744073709551616 + bl) := by
    by_cases c1 : ah < bh
    · have c2 : ah * 18446744073709551616 + al < bh * 18446744073709551616 + bl := by omega
      have d1 : cmpN ah bh = -1 := by unfold cmpN; rw [if_pos c1]
      have d2 : cmpN (ah * 18446744073709551616 + al) (bh * 18446744073709551616 + bl) = -1 := by unfold cmpN; rw [if_pos c2]
      rw [d1, d2, if_neg (by decide)]
    · by_cases c3 : bh < ah
      · have c4 : bh * 18446744073709551616 + bl < ah * 18446744073709551616 + al := by omega
        have c5 : ¬ ah * 18446744073709551616 + al < bh * 18446744073709551616 + bl := by omega
        have d1 : cmpN ah bh = 1 := by unfold cmpN; rw [if_neg c1, if_pos c3]
        have d2 : cmpN (ah * 18446744073709551616 + al) (bh * 18446744073709551616 + bl) = 1 := by unfold cmpN; rw [if_neg c5, if_pos c4]
        rw [d1, d2, if_neg (by decide)]
      · obtain rfl : ah = bh := by omega
        have d1 : cmpN ah ah = 0 := by unfold cmpN; rw [if_neg c1, if_neg c1]
        rw [d1, if_pos rfl]
        unfold cmpN
        simp only [Nat.add_lt_add_iff_left]
  rw [e] at h
  exact Ev.bindN h rfl
end Go.Proofs.Ytjphoempoinedaa.N
