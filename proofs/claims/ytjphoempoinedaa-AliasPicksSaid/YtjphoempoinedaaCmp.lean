-- Cut for this claim by a program (wip/prune.py) out of the texts that its bench laid or wrote
import Derived.Test.YtjphoempoinedaaNat1
import Derived.Test.YtjphoempoinedaaFRef01B
namespace Go.Proofs.Ytjphoempoinedaa.N
open Go Go.RowKit Go.Proofs.Ytjphoempoinedaa.F Go.Proofs.YtjphoempoinedaaW.PrintWords Go.Proofs.YtjphoempoinedaaW.PrintLast Go.Proofs.YtjphoempoinedaaW.PrintMore Go.Proofs.Ytjphoempoinedaa.Digs
set_option linter.unusedSimpArgs false
set_option linter.unusedVariables false
def cmpN (a b : Nat) : Int := if a < b then -1 else if b < a then 1 else 0
theorem cmp_l0 (a b : Nat) (i : Nat) : i < 1000000000000 → a / 65536 ^ i = b / 65536 ^ i →
    Ev (fun k => tombolaref01_Cmp.l0 k ((i : Int) - 1) (digs a) (digs b)) (cmpN a b) := by
  induction i with
  | zero =>
    intro _ h
    refine ⟨1, fun k hk => ?_⟩
    obtain ⟨k, rfl⟩ : ∃ m, k = m + 1 := ⟨k - 1, by omega⟩
    simp only [tombolaref01_Cmp.l0]
    rw [if_neg (by omega)]
    simp at h
    unfold cmpN
    rw [if_neg (by omega), if_neg (by omega)]
  | succ i ih =>
    intro hi h
    have hda := dig_digs a i
    have hdb := dig_digs b i
    rw [Nat.pow_succ, ← Nat.div_div_eq_div_mul, ← Nat.div_div_eq_div_mul] at h
    have e : (((i + 1 : Nat) : Int) - 1) = (i : Int) := by omega
    have lt_of : ∀ x y : Nat, x / 65536 ^ i < y / 65536 ^ i → x < y := by
      intro x y hxy
      rcases Nat.lt_or_ge x y with h1 | h1
      · exact h1
      · have := Nat.div_le_div_right (c := 65536 ^ i) h1; omega
    by_cases h1 : a / 65536 ^ i < b / 65536 ^ i
    · refine ⟨1, fun k hk => ?_⟩
      obtain ⟨k, rfl⟩ : ∃ m, k = m + 1 := ⟨k - 1, by omega⟩
      simp only [tombolaref01_Cmp.l0]
      rw [e, if_pos (by omega), digit_eq, digit_eq, hda, hdb]
      simp only [Option.bind_some]
      rw [if_pos (by omega)]
      unfold cmpN
      rw [if_pos (lt_of _ _ h1)]
    · by_cases h2 : b / 65536 ^ i < a / 65536 ^ i
      · refine ⟨1, fun k hk => ?_⟩
        obtain ⟨k, rfl⟩ : ∃ m, k = m + 1 := ⟨k - 1, by omega⟩
        simp only [tombolaref01_Cmp.l0]
        rw [e, if_pos (by omega), digit_eq, digit_eq, hda, hdb]
        simp only [Option.bind_some]
        rw [if_neg (by omega), if_pos (by omega)]
        have := lt_of _ _ h2
        unfold cmpN
        rw [if_neg (by omega), if_pos this]
      · have heq : a / 65536 ^ i = b / 65536 ^ i := by omega
        refine Ev.step (f := fun k => tombolaref01_Cmp.l0 k ((i : Int) - 1) (digs a) (digs b)) (fun k => ?_) (ih (by omega) heq)
        simp only [tombolaref01_Cmp.l0]
        rw [e, if_pos (by omega), digit_eq, digit_eq, hda, hdb]
        simp only [Option.bind_some]
        rw [heq, if_neg (by omega), if_neg (by omega), i64w (by omega) (by omega)]
theorem cmp_ev (a b : Nat) (hla : (digs a).length < 1000000000) (hlb : (digs b).length < 1000000000) : Ev (fun k => tombolaref01_Cmp.f k (digs a) (digs b)) (cmpN a b) := by
  have big : ∀ n : Nat, (digs a).length ≤ n → (digs b).length ≤ n → n < 1000000000 → Ev (fun k => tombolaref01_Cmp.j0 k n (digs a) (digs b)) (cmpN a b) := by
    intro n h1 h2 h3
    refine Ev.step (f := fun k => tombolaref01_Cmp.l0 k ((n : Int) - 1) (digs a) (digs b)) (fun k => ?_) (cmp_l0 a b n (by omega) ?_)
    · simp only [tombolaref01_Cmp.j0]
      rw [i64w (by omega) (by omega)]
    · rw [Nat.div_eq_of_lt ((digs_len_le a n).1 h1), Nat.div_eq_of_lt ((digs_len_le b n).1 h2)]
  by_cases h : ((digs b).length : Int) > ((digs a).length : Int)
  · exact Ev.congr (fun k => by unfold tombolaref01_Cmp.f; rw [if_pos h]) (big _ (by omega) (Nat.le_refl _) hlb)
  · exact Ev.congr (fun k => by unfold tombolaref01_Cmp.f; rw [if_neg h]) (big _ (Nat.le_refl _) (by omega) hla)
end Go.Proofs.Ytjphoempoinedaa.N
