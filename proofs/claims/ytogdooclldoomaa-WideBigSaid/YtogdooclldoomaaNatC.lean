import Derived.Test.YtogdooclldoomaaNat1
import Derived.Test.YtogdooclldoomaaFRef01F
import Derived.Test.YtogdooclldoomaaFRef01G
namespace Go.Proofs.Ytogdooclldoomaa.N
open Go Go.RowKit Go.Proofs.Ytogdooclldoomaa.F Go.Proofs.YtogdooclldoomaaW.PrintWords Go.Proofs.YtogdooclldoomaaW.PrintLast Go.Proofs.YtogdooclldoomaaW.PrintMore Go.Proofs.Ytogdooclldoomaa.Digs

/-- The order of numbers. -/
def cmpN (a b : Nat) : Int := if a < b then -1 else if b < a then 1 else 0
theorem cmp_l0 (a b : Nat) (i : Nat) : i < 1000000000000 → a / 65536 ^ i = b / 65536 ^ i →
    Ev (fun k => tombolaref01_Cmp.l0 k ((i : Int) - 1) (digs a) (digs b)) (cmpN a b) := by
  induction i with
  | zero =>
    intro _ h
    refine ⟨1, fun k hk => ?_⟩
    obtain ⟨k, rfl⟩ : ∃ m, k = m + 1 := ⟨k - 1, by omega⟩
    simp only [tombolaref01_Cmp.l0]
    rw [if_neg (by omega)]
    simp at h
    unfold cmpN
    rw [if_neg (by omega), if_neg (by omega)]
  | succ i ih =>
    intro hi h
    have hda := dig_digs a i
    have hdb := dig_digs b i
    rw [Nat.pow_succ, ← Nat.div_div_eq_div_mul, ← Nat.div_div_eq_div_mul] at h
    have e : (((i + 1 : Nat) : Int) - 1) = (i : Int) := by omega
    have lt_of : ∀ x y : Nat, x / 65536 ^ i < y / 65536 ^ i → x < y := by
      intro x y hxy
      rcases Nat.lt_or_ge x y with h1 | h1
      · exact h1
      · have := Nat.div_le_div_right (c := 65536 ^ i) h1; omega
    by_cases h1 : a / 65536 ^ i < b / 65536 ^ i
    · refine ⟨1, fun k hk => ?_⟩
      obtain ⟨k, rfl⟩ : ∃ m, k = m + 1 := ⟨k - 1, by omega⟩
      simp only [tombolaref01_Cmp.l0]
      rw [e, if_pos (by omega), digit_eq, digit_eq, hda, hdb]
      simp only [Option.bind_some]
      rw [if_pos (by omega)]
      unfold cmpN
      rw [if_pos (lt_of _ _ h1)]
    · by_cases h2 : b / 65536 ^ i < a / 65536 ^ i
      · refine ⟨1, fun k hk => ?_⟩
        obtain ⟨k, rfl⟩ : ∃ m, k = m + 1 := ⟨k - 1, by omega⟩
        simp only [tombolaref01_Cmp.l0]
        rw [e, if_pos (by omega), digit_eq, digit_eq, hda, hdb]
        simp only [Option.bind_some]
        rw [if_neg (by omega), if_pos (by omega)]
        have := lt_of _ _ h2
        unfold cmpN
        rw [if_neg (by omega), if_pos this]
      · have heq : a / 65536 ^ i = b / 65536 ^ i := by omega
        refine Ev.step (f := fun k => tombolaref01_Cmp.l0 k ((i : Int) - 1) (digs a) (digs b)) (fun k => ?_) (ih (by omega) heq)
        simp only [tombolaref01_Cmp.l0]
        rw [e, if_pos (by omega), digit_eq, digit_eq, hda, hdb]
        simp only [Option.bind_some]
        rw [heq, if_neg (by omega), if_neg (by omega), i64w (by omega) (by omega)]
theorem cmp_ev (a b : Nat) (hla : (digs a).length < 1000000000) (hlb : (digs b).length < 1000000000) : Ev (fun k => tombolaref01_Cmp.f k (digs a) (digs b)) (cmpN a b) := by
  have big : ∀ n : Nat, (digs a).length ≤ n → (digs b).length ≤ n → n < 1000000000 → Ev (fun k => tombolaref01_Cmp.j0 k n (digs a) (digs b)) (cmpN a b) := by
    intro n h1 h2 h3
    refine Ev.step (f := fun k => tombolaref01_Cmp.l0 k ((n : Int) - 1) (digs a) (digs b)) (fun k => ?_) (cmp_l0 a b n (by omega) ?_)
    · simp only [tombolaref01_Cmp.j0]
      rw [i64w (by omega) (by omega)]
    · rw [Nat.div_eq_of_lt ((digs_len_le a n).1 h1), Nat.div_eq_of_lt ((digs_len_le b n).1 h2)]
  by_cases h : ((digs b).length : Int) > ((digs a).length : Int)
  · exact Ev.congr (fun k => by unfold tombolaref01_Cmp.f; rw [if_pos h]) (big _ (by omega) (Nat.le_refl _) hlb)
  · exact Ev.congr (fun k => by unfold tombolaref01_Cmp.f; rw [if_neg h]) (big _ (Nat.le_refl _) (by omega) hla)

theorem wide_ev (hi lo : Nat) (h1 : hi < 18446744073709551616) (h2 : lo < 18446744073709551616) : Ev (fun k => tombolaref01_Wide.f k hi lo) (digs (hi * 18446744073709551616 + lo)) := by
  have hof := of_ev hi h1
  have hlen := u64_len h1
  have t1 : wrap64 (Int.tmod (lo : Int) 65536) = ((lo % 65536 : Nat) : Int) := by
    rw [Int.tmod_eq_emod_of_nonneg (by omega), i64w (by omega) (by omega)]; omega
  have t2 : wrap64 (Int.tmod (IntKind.u64.wrap (Int.tdiv (lo : Int) 65536)) 65536) = ((lo / 65536 % 65536 : Nat) : Int) := by
    rw [Int.tdiv_eq_ediv_of_nonneg (by omega), u64w (by omega) (by omega), Int.tmod_eq_emod_of_nonneg (by omega), i64w (by omega) (by omega)]; omega
  have t3 : wrap64 (Int.tmod (IntKind.u64.wrap (Int.tdiv (lo : Int) 4294967296)) 65536) = ((lo / 4294967296 % 65536 : Nat) : Int) := by
    rw [Int.tdiv_eq_ediv_of_nonneg (by omega), u64w (by omega) (by omega), Int.tmod_eq_emod_of_nonneg (by omega), i64w (by omega) (by omega)]; omega
  have t4 : wrap64 (IntKind.u64.wrap (Int.tdiv (lo : Int) 281474976710656)) = ((lo / 281474976710656 : Nat) : Int) := by
    rw [Int.tdiv_eq_ediv_of_nonneg (by omega), u64w (by omega) (by omega), i64w (by omega) (by omega)]; omega
  have hg : Dg ([((lo % 65536 : Nat) : Int), ((lo / 65536 % 65536 : Nat) : Int), ((lo / 4294967296 % 65536 : Nat) : Int), ((lo / 281474976710656 : Nat) : Int)] ++ digs hi) := by
    refine good_append ?_ (good_digs hi)
    simp only [good_cons]
    refine ⟨by omega, by omega, by omega, by omega, good_nil⟩
  have hc := cut_ev hg (by simp; omega)
  rw [val_append, val_digs] at hc
  have hv : (val [((lo % 65536 : Nat) : Int), ((lo / 65536 % 65536 : Nat) : Int), ((lo / 4294967296 % 65536 : Nat) : Int), ((lo / 281474976710656 : Nat) : Int)] + 65536 ^ [((lo % 65536 : Nat) : Int), ((lo / 65536 % 65536 : Nat) : Int), ((lo / 4294967296 % 65536 : Nat) : Int), ((lo / 281474976710656 : Nat) : Int)].length * (hi : Int)).toNat = hi * 18446744073709551616 + lo := by
    simp only [val, List.length_cons, List.length_nil]; omega
  rw [hv] at hc
  refine Ev.congr (g := fun k => tombolaref01_Wide.f k hi lo) (f := fun k => (tombolaref01_Of.f k hi).bind fun t236 => (if 4 + t236.length < 17592186044416 then ((tombolaref01_Cut.f k ([((lo % 65536 : Nat) : Int), ((lo / 65536 % 65536 : Nat) : Int), ((lo / 4294967296 % 65536 : Nat) : Int), ((lo / 281474976710656 : Nat) : Int)] ++ t236)).bind fun t242 => (some t242)) else none)) (fun k => ?_) ?_
  · simp only [tombolaref01_Wide.f, Option.bind_some, t1, t2, t3, t4, List.length_cons, List.length_nil]
  · refine Ev.bind hof ?_
    refine Ev.congr (fun k => if_pos (by omega)) (Ev.bindN hc rfl)
end Go.Proofs.Ytogdooclldoomaa.N
