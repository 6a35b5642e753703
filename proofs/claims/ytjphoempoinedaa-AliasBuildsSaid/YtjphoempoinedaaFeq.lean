-- Cut for this claim by a program (wip/prune.py) out of the texts that its bench laid or wrote
import Derived.Test.YtjphoempoinedaaNat1
import Derived.Test.YtjphoempoinedaaFRef01B
import Derived.Test.YtjphoempoinedaaF0
section
namespace Go.Proofs.Ytjphoempoinedaa.N
open Go Go.RowKit Go.Proofs.Ytjphoempoinedaa.F Go.Proofs.YtjphoempoinedaaW.PrintWords Go.Proofs.YtjphoempoinedaaW.PrintLast Go.Proofs.YtjphoempoinedaaW.PrintMore Go.Proofs.Ytjphoempoinedaa.Digs
set_option linter.unusedSimpArgs false
set_option linter.unusedVariables false
def cmpN (a b : Nat) : Int := if a < b then -1 else if b < a then 1 else 0
theorem cmp_l0 (a b : Nat) (i : Nat) : i < 1000000000000 → a / 65536 ^ i = b / 65536 ^ i →
    Ev (fun k => tombolaref01_Cmp.l0 k ((i : Int) - 1) (digs a) (digs b)) (cmpN a b) := by
  induction i with
  | zero =>
    intro _ h
    refine ⟨1, fun k hk => ?_⟩
    obtain ⟨k, rfl⟩ : ∃ m, k = m + 1 := ⟨k - 1, by omega⟩
    simp only [tombolaref01_Cmp.l0]
    rw [if_neg (by omega)]
    simp at h
    unfold cmpN
    rw [if_neg (by omega), if_neg (by omega)]
  | succ i ih =>
    intro hi h
    have hda := dig_digs a i
    have hdb := dig_digs b i
    rw [Nat.pow_succ, ← Nat.div_div_eq_div_mul, ← Nat.div_div_eq_div_mul] at h
    have e : (((i + 1 : Nat) : Int) - 1) = (i : Int) := by omega
    have lt_of : ∀ x y : Nat, x / 65536 ^ i < y / 65536 ^ i → x < y := by
      intro x y hxy
      rcases Nat.lt_or_ge x y with h1 | h1
      · exact h1
      · have := Nat.div_le_div_right (c := 65536 ^ i) h1; omega
    by_cases h1 : a / 65536 ^ i < b / 65536 ^ i
    · refine ⟨1, fun k hk => ?_⟩
      obtain ⟨k, rfl⟩ : ∃ m, k = m + 1 := ⟨k - 1, by omega⟩
      simp only [tombolaref01_Cmp.l0]
      rw [e, if_pos (by omega), digit_eq, digit_eq, hda, hdb]
      simp only [Option.bind_some]
      rw [if_pos (by omega)]
      unfold cmpN
      rw [if_pos (lt_of _ _ h1)]
    · by_cases h2 : b / 65536 ^ i < a / 65536 ^ i
      · refine ⟨1, fun k hk => ?_⟩
        obtain ⟨k, rfl⟩ : ∃ m, k = m + 1 := ⟨k - 1, by omega⟩
        simp only [tombolaref01_Cmp.l0]
        rw [e, if_pos (by omega), digit_eq, digit_eq, hda, hdb]
        simp only [Option.bind_some]
        rw [if_neg (by omega), if_pos (by omega)]
        have := lt_of _ _ h2
        unfold cmpN
        rw [if_neg (by omega), if_pos this]
      · have heq : a / 65536 ^ i = b / 65536 ^ i := by omega
        refine Ev.step (f := fun k => tombolaref01_Cmp.l0 k ((i : Int) - 1) (digs a) (digs b)) (fun k => ?_) (ih (by omega) heq)
        simp only [tombolaref01_Cmp.l0]
        rw [e, if_pos (by omega), digit_eq, digit_eq, hda, hdb]
        simp only [Option.bind_some]
        rw [heq, if_neg (by omega), if_neg (by omega), i64w (by omega) (by omega)]
theorem cmp_ev (a b : Nat) (hla : (digs a).length < 1000000000) (hlb : (digs b).length < 1000000000) : Ev (fun k => tombolaref01_Cmp.f k (digs a) (digs b)) (cmpN a b) := by
  have big : ∀ n : Nat, (digs a).length ≤ n → (digs b).length ≤ n → n < 1000000000 → Ev (fun k => tombolaref01_Cmp.j0 k n (digs a) (digs b)) (cmpN a b) := by
    intro n h1 h2 h3
    refine Ev.step (f := fun k => tombolaref01_Cmp.l0 k ((n : Int) - 1) (digs a) (digs b)) (fun k => ?_) (cmp_l0 a b n (by omega) ?_)
    · simp only [tombolaref01_Cmp.j0]
      rw [i64w (by omega) (by omega)]
    · rw [Nat.div_eq_of_lt ((digs_len_le a n).1 h1), Nat.div_eq_of_lt ((digs_len_le b n).1 h2)]
  by_cases h : ((digs b).length : Int) > ((digs a).length : Int)
  · exact Ev.congr (fun k => by unfold tombolaref01_Cmp.f; rw [if_pos h]) (big _ (by omega) (Nat.le_refl _) hlb)
  · exact Ev.congr (fun k => by unfold tombolaref01_Cmp.f; rw [if_neg h]) (big _ (Nat.le_refl _) (by omega) hla)
end Go.Proofs.Ytjphoempoinedaa.N
end
section
namespace Go.Proofs.Ytjphoempoinedaa.F
def firstAt {α : Type} (p : α → Bool) : List α → Int → Int
  | [], _ => -1
  | x :: l, i => if p x = true then i else firstAt p l (i + 1)
theorem firstAt_hit {α : Type} (p : α → Bool) (l : List α) (z : α) : ∀ (k : Nat) (i : Int), k < l.length → (∀ j, j < k → p (l.getD j z) = false) → p (l.getD k z) = true → firstAt p l i = i + k := by
  induction l with
  | nil => intro k i hk; simp at hk
  | cons x l ih =>
    intro k i hk hj hp
    cases k with
    | zero => simp only [firstAt]; rw [if_pos (by simpa using hp)]; simp
    | succ k =>
      have h0 : p x = false := by simpa using hj 0 (Nat.succ_pos _)
      simp only [firstAt]
      rw [if_neg (by rw [h0]; decide), ih k (i + 1) (by simpa using hk) (fun j hjk => by simpa using hj (j + 1) (by omega)) (by simpa using hp)]
      omega
theorem firstAt_miss {α : Type} (p : α → Bool) (l : List α) (z : α) : ∀ (i : Int), (∀ j, j < l.length → p (l.getD j z) = false) → firstAt p l i = -1 := by
  induction l with
  | nil => intro i _; rfl
  | cons x l ih =>
    intro i hj
    have h0 : p x = false := by simpa using hj 0 (Nat.succ_pos _)
    simp only [firstAt]
    rw [if_neg (by rw [h0]; decide)]
    exact ih (i + 1) (fun j hjl => by simpa using hj (j + 1) (by simpa using hjl))
end Go.Proofs.Ytjphoempoinedaa.F
end
section
namespace Go.Proofs.Ytjphoempoinedaa.F
open Go.RowKit Go.Proofs.YtjphoempoinedaaW.PrintWords Go.Proofs.YtjphoempoinedaaW.PrintLast Go.Proofs.YtjphoempoinedaaW.PrintMore
attribute [local go_sem] max2_int min2_int max_two min_two max_three min_three max_four min_four
set_option linter.unusedVariables false
set_option linter.unusedSimpArgs false
theorem eqA26 (d : Nat) (w : World) (x0 y0 : Int) (x1 y1 : Int) :
  (Op.equalIn (d + 2) 26 (.agg #[.int .u64 x0, .int .u64 x1]) (.agg #[.int .u64 y0, .int .u64 y1])).run Try.prog w = .ok (x0 == y0 && (x1 == y1)) w := by
 refine eqA_of Try.underlying26 (by kernel_rfl) ?_
 refine eqf_cons (by rfl) (by go_simp;rfl) (by go_simp;rfl) (by go_simp) ?_
 exact eqf_last (by rfl) (by go_simp;rfl) (by go_simp;rfl) (by go_simp)
end Go.Proofs.Ytjphoempoinedaa.F
end
