import Derived.Test.YtjphoempoinedaaDiv
import Derived.Test.YtjphoempoinedaaNat4
import Derived.Test.YtjphoempoinedaaCmpw
import Derived.Test.YtjphoempoinedaaFDrawA
import Derived.Test.YtjphoempoinedaaFRef08A
namespace Go.Proofs.Ytjphoempoinedaa.N
open Go Go.RowKit Go.Proofs.Ytjphoempoinedaa.F Go.Proofs.YtjphoempoinedaaW.PrintWords Go.Proofs.YtjphoempoinedaaW.PrintLast Go.Proofs.YtjphoempoinedaaW.PrintMore Go.Proofs.Ytjphoempoinedaa.Digs
set_option linter.unusedSimpArgs false
set_option linter.unusedVariables false
/-! Draws, without the program. -/
/-- How many words are left out. -/
def restN (t : Nat) : Nat := if t = 0 then 0 else 18446744073709551616 % t
/-- Is a word taken? -/
def takenN (t w : Nat) : Bool := decide (0 < t ∧ w + restN t < 18446744073709551616)
/-- What a word tells. -/
def tellN (t w : Nat) : Int × Bool := if takenN t w = true then (((w % t : Nat) : Int), true) else (0, false)
theorem restN_lt {t : Nat} (h : 0 < t) : restN t < t := by unfold restN; rw [if_neg (by omega)]; exact Nat.mod_lt _ h
theorem rest_eq (t : Nat) (h : t < 18446744073709551616) : draw_Rest.f (t : Int) = some ((restN t : Nat) : Int) := by
  unfold draw_Rest.f restN
  by_cases h0 : t = 0
  · subst h0; rfl
  · rw [if_neg (by omega), if_neg h0]
    have e : IntKind.u64.wrap (-(t : Int)) = ((18446744073709551616 - t : Nat) : Int) := by rw [u64_mod]; omega
    rw [e, Int.tmod_eq_emod_of_nonneg (by omega), ← Int.natCast_emod, ← Nat.mod_eq_sub_mod (by omega)]
theorem taken_eq (t w : Nat) (h : t < 18446744073709551616) : draw_Taken.f (t : Int) (w : Int) = some (takenN t w) := by
  unfold draw_Taken.f takenN
  by_cases h0 : t = 0
  · subst h0
    rw [if_neg (by omega)]
    simp
  · rw [if_pos (by omega), rest_eq t h]
    have hr := restN_lt (t := t) (by omega)
    simp only [Option.bind_some]
    have e : IntKind.u64.wrap (18446744073709551615 - ((restN t : Nat) : Int)) = ((18446744073709551615 - restN t : Nat) : Int) := by rw [u64_mod]; omega
    rw [e]
    congr 1
    apply Bool.eq_iff_iff.2
    rw [decide_eq_true_eq, decide_eq_true_eq]
    omega
theorem tell_eq (t w : Nat) (h : t < 18446744073709551616) : draw_Tell.f (t : Int) (w : Int) = some (tellN t w) := by
  unfold draw_Tell.f tellN
  rw [taken_eq t w h]
  simp only [Option.bind_some]
  by_cases hk : takenN t w = true
  · have : 0 < t := (of_decide_eq_true hk).1
    rw [if_pos hk, if_pos hk, if_neg (by omega), Int.tmod_eq_emod_of_nonneg (by omega), ← Int.natCast_emod]
  · rw [if_neg hk, if_neg hk]
theorem whole_digs : ([0, 0, 0, 0, 1] : List Int) = digs 18446744073709551616 := by decide +kernel
theorem whole_len : (digs 18446744073709551616).length = 5 := by rw [← whole_digs]; rfl
theorem len_word {t : Nat} (h : t < 18446744073709551616) : (digs t).length < 100000 := by have := u64_len h; omega
theorem refRest_ev (t : Nat) (h : t < 18446744073709551616) : Ev (fun k => tombolaref08_Rest.f k (t : Int)) ((restN t : Nat) : Int) := by
  unfold tombolaref08_Rest.f tombolaref08_whole.f
  by_cases h0 : t = 0
  · subst h0; exact ev_of_eq fun _ => rfl
  · refine Ev.congr (f := fun k => (tombolaref01_Of.f k (t : Int)).bind fun t104 => ((tombolaref01_Div.f k (digs 18446744073709551616) t104).bind fun bt107 => ((tombolaref01_Word.f k bt107.2).bind fun bt115 => (some bt115.1)))) (fun k => by rw [if_neg (by omega), whole_digs]; rfl) ?_
    refine Ev.bind (of_ev t h) ?_
    refine Ev.bind (div_ev 18446744073709551616 t (by omega) (by rw [whole_len]; decide) (len_word h)) ?_
    have hr : 18446744073709551616 % t < t := Nat.mod_lt _ (by omega)
    have hw := word_ev (18446744073709551616 % t) (by omega)
    refine Ev.bindN hw ?_
    unfold restN
    rw [if_neg h0]
theorem refTell_ev (t w : Nat) (h : t < 18446744073709551616) (hw : w < 18446744073709551616) : Ev (fun k => tombolaref08_Tell.f k (t : Int) (w : Int)) (tellN t w) := by
  unfold tombolaref08_Tell.f tombolaref08_whole.f
  by_cases h0 : t = 0
  · subst h0; exact ev_of_eq fun _ => rfl
  · have hr := restN_lt (t := t) (by omega)
    refine Ev.congr (f := fun k => (tombolaref01_Of.f k (w : Int)).bind fun t101 => ((tombolaref08_Rest.f k (t : Int)).bind fun t107 => ((tombolaref01_Of.f k t107).bind fun t108 => ((tombolaref01_Sub.f k (digs 18446744073709551616) t108).bind fun t111 => ((tombolaref01_Cmp.f k t101 t111).bind fun t114 => (if t114 ≥ 0 then (some (0, false)) else (some (Int.tmod (w : Int) (t : Int), true)))))))) (fun k => by rw [if_neg (by omega), whole_digs]; rfl) ?_
    refine Ev.bind (of_ev w hw) ?_
    refine Ev.bind (refRest_ev t h) ?_
    refine Ev.bind (of_ev (restN t) (by omega)) ?_
    refine Ev.bind (sub_ev 18446744073709551616 (restN t) (by omega) (by rw [whole_len]; decide)) ?_
    have hl : (digs (18446744073709551616 - restN t)).length < 1000000000 := by
      have := (digs_len_le (18446744073709551616 - restN t) 5).2 (Nat.lt_of_le_of_lt (Nat.sub_le _ _) (by decide))
      omega
    refine Ev.bindN (cmp_ev w _ (by have := u64_len hw; omega) hl) ?_
    unfold tellN takenN cmpN
    by_cases hk : w + restN t < 18446744073709551616
    · rw [if_pos (show w < 18446744073709551616 - restN t by omega), if_neg (by decide), if_pos (by rw [decide_eq_true_eq]; omega), Int.tmod_eq_emod_of_nonneg (by omega), ← Int.natCast_emod]
    · rw [if_neg (show ¬ w < 18446744073709551616 - restN t by omega), if_pos (by split <;> decide), if_neg (by rw [decide_eq_true_eq]; omega)]
theorem each_ev (t : Nat) (h : t < 18446744073709551616) : Ev (fun k => draw_Each.f k (t : Int)) (((18446744073709551616 / t / 18446744073709551616 : Nat) : Int), ((18446744073709551616 / t % 18446744073709551616 : Nat) : Int)) := by
  unfold draw_Each.f
  by_cases h0 : t = 0
  · subst h0
    refine ev_of_eq fun k => ?_
    unfold wide_Div.f
    rw [if_pos (show ((0 : Nat) : Int) = 0 from rfl), Nat.div_zero]
    rfl
  · have hd := divw_ev 1 0 t (by decide) (by decide) (by omega) h
    simp only [Nat.one_mul, Nat.add_zero] at hd
    exact Ev.bindN hd rfl
theorem refEach_ev (t : Nat) (h : t < 18446744073709551616) : Ev (fun k => tombolaref08_Each.f k (t : Int)) (digs (18446744073709551616 / t)) := by
  unfold tombolaref08_Each.f tombolaref08_whole.f
  by_cases h0 : t = 0
  · subst h0
    refine ev_of_eq fun k => ?_
    rw [if_pos (show ((0 : Nat) : Int) = 0 from rfl), Nat.div_zero]
    rfl
  · refine Ev.congr (f := fun k => (tombolaref01_Of.f k (t : Int)).bind fun t105 => ((tombolaref01_Div.f k (digs 18446744073709551616) t105).bind fun bt108 => (some bt108.1))) (fun k => by rw [if_neg (by omega), whole_digs]; rfl) ?_
    refine Ev.bind (of_ev t h) ?_
    exact Ev.bindN (div_ev 18446744073709551616 t (by omega) (by rw [whole_len]; decide) (len_word h)) rfl
theorem word_in {t k : Nat} (h : t < 18446744073709551616) (hk : k < 18446744073709551616) : cmpN (0 * 18446744073709551616 + k) (18446744073709551616 / t / 18446744073709551616 * 18446744073709551616 + 18446744073709551616 / t % 18446744073709551616) < 0 ↔ k < 18446744073709551616 / t := by
  have e : 18446744073709551616 / t / 18446744073709551616 * 18446744073709551616 + 18446744073709551616 / t % 18446744073709551616 = 18446744073709551616 / t := by
    generalize 18446744073709551616 / t = q
    omega
  rw [e, Nat.zero_mul, Nat.zero_add]
  unfold cmpN
  generalize 18446744073709551616 / t = q
  constructor
  · intro h1
    split at h1
    · assumption
    · split at h1 <;> omega
  · intro h1
    rw [if_pos h1]
    decide
/-- One of the words that tell a number. -/
def wordN (t r k : Nat) : Int × Bool := if r < t ∧ k < 18446744073709551616 / t then (((r + k * t : Nat) : Int), true) else (0, false)
theorem word_le {t r k : Nat} (hr : r < t) (hk : k < 18446744073709551616 / t) : r + k * t + restN t < 18446744073709551616 := by
  have h1 := Nat.div_add_mod 18446744073709551616 t
  have h2 : restN t = 18446744073709551616 % t := by unfold restN; rw [if_neg (by omega)]
  rw [h2]
  have h3 : (k + 1) * t ≤ 18446744073709551616 / t * t := Nat.mul_le_mul_right _ hk
  rw [Nat.mul_comm t] at h1
  rw [Nat.add_mul, Nat.one_mul] at h3
  generalize 18446744073709551616 / t * t = a at h1 h3
  generalize 18446744073709551616 % t = b at h1
  generalize k * t = c at h3
  omega
theorem wordw_ev (t r k : Nat) (ht : t < 18446744073709551616) (hk : k < 18446744073709551616) : Ev (fun n => draw_Word.f n (t : Int) (r : Int) (k : Int)) (wordN t r k) := by
  unfold draw_Word.f wordN
  by_cases hr : r < t
  · refine Ev.congr (fun n => by rw [if_neg (show ¬ ((r : Int) ≥ (t : Int)) by omega)]) ?_
    refine Ev.bind (each_ev t ht) ?_
    have hc := cmpw_ev 0 k (18446744073709551616 / t / 18446744073709551616) (18446744073709551616 / t % 18446744073709551616) hk (Nat.mod_lt _ (by decide))
    refine Ev.bindN hc ?_
    have hin := word_in (t := t) ht hk
    by_cases h : k < 18446744073709551616 / t
    · rw [if_neg (by have := hin.2 h; omega), if_pos ⟨hr, h⟩]
      have hle := word_le hr h
      have e1 : (k : Int) * (t : Int) = ((k * t : Nat) : Int) := (Int.natCast_mul _ _).symm
      rw [e1]
      generalize k * t = c at hle ⊢
      rw [u64_mod, u64_mod]
      congr 2
      omega
    · rw [if_pos (by have := mt hin.1 h; omega), if_neg (fun h2 => h h2.2)]
  · refine Ev.congr (f := fun _ => some (0, false)) (fun n => by rw [if_pos (show (r : Int) ≥ (t : Int) by omega)]) ?_
    rw [if_neg (fun h2 => hr h2.1)]
    exact ev_some _
end Go.Proofs.Ytjphoempoinedaa.N
