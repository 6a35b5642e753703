/- The total of any words, their spans, and whose span has any number, are what the document says of them; a word that is taken away moves the others. Conditions: none beyond the row's own. -/
import Derived.Test.YtogdooclldoomaaSpan
import Derived.Test.YtogdooclldoomaaFRef09A
import Derived.Test.YtogdooclldoomaaFLaw09alive
namespace Go.Proofs.Ytogdooclldoomaa.N
open Go Go.RowKit Go.Proofs.Ytogdooclldoomaa.F Go.Proofs.YtogdooclldoomaaW.PrintWords Go.Proofs.YtogdooclldoomaaW.PrintLast Go.Proofs.YtogdooclldoomaaW.PrintMore Go.Proofs.Ytogdooclldoomaa.Digs
set_option linter.unusedSimpArgs false
set_option linter.unusedVariables false

theorem rtotal_l0 (m : List Nat) (hm : Words m) (hl : m.length < 17592186044416) (d : Nat) : ∀ (j : Nat), m.length - j = d → j ≤ m.length →
    Ev (fun k => tombolaref09_Total.l0 k (ofN m) j (digs (pre m j))) (if m.sum < 18446744073709551616 then ((m.sum : Int), true) else (0, false)) := by
  have hbound : ∀ j, j ≤ m.length → (digs (pre m j)).length < 1000000 := by
    intro j hj
    have h1 : pre m j ≤ j * 18446744073709551616 := by
      clear hl
      induction j with
      | zero => rw [pre_zero]; exact Nat.zero_le _
      | succ j ih =>
        have := ih (by omega)
        have hw := words_get hm j
        rw [pre_succ (by omega)]; omega
    have h2 : pre m j < 65536 ^ 10 := by
      rw [show (65536 : Nat) ^ 10 = 1461501637330902918203684832716283019655932542976 from by decide]; omega
    have := (digs_len_le (pre m j) 10).2 h2
    omega
  induction d with
  | zero =>
    intro j hd hj
    obtain rfl : j = m.length := by omega
    rw [pre_all]
    have hw : Ev (fun k => tombolaref01_Word.f k (digs m.sum)) (if m.sum < 18446744073709551616 then ((m.sum : Int), true) else (0, false)) := by
      by_cases h : m.sum < 18446744073709551616
      · rw [if_pos h]; exact word_ev _ h
      · rw [if_neg h]; exact word_no _ (Nat.le_of_not_lt h)
    refine Ev.step (fun k => ?_) (Ev.bindN hw rfl)
    simp only [tombolaref09_Total.l0]
    rw [if_neg (by rw [ofN_length]; omega)]
  | succ d ih =>
    intro j hd hj
    have hjl : j < m.length := by omega
    have hn := ih (j + 1) (by omega) hjl
    rw [pre_succ hjl] at hn
    have hw := words_get hm j
    have hb1 := hbound j hj
    have hb2 := u64_len hw
    have ha := add_ev (pre m j) (m.getD j 0) (by omega) (by omega)
    have w1 : Aside0 (wrap64 ((j : Int) + 1) = ((j + 1 : Nat) : Int)) := ⟨by rw [i64w (by omega) (by omega)]; omega⟩
    refine Ev.step (f := fun k => (tombolaref01_Of.f k ((m.getD j 0 : Nat) : Int)).bind fun t103 => ((tombolaref01_Add.f k (digs (pre m j)) t103).bind fun t106 => (tombolaref09_Total.l0 k (ofN m) ((j + 1 : Nat) : Int) t106))) (fun k => ?_) ?_
    · simp only [tombolaref09_Total.l0]
      rw [if_pos (by rw [ofN_length]; omega), if_pos (Int.natCast_nonneg _), rd_ofN, w1.out]
    · exact Ev.bind (of_ev _ hw) (Ev.bind ha hn)
theorem rtotal_ev (m : List Nat) (hm : Words m) (hl : m.length < 17592186044416) : Ev (fun k => tombolaref09_Total.f k (ofN m)) (if m.sum < 18446744073709551616 then ((m.sum : Int), true) else (0, false)) := by
  have h := rtotal_l0 m hm hl _ 0 rfl (Nat.zero_le _)
  rw [pre_zero, digs_zero] at h
  exact h
theorem rpick_l0 (m : List Nat) (hm : Words m) (hl : m.length < 17592186044416) (d : Nat) : ∀ (j r : Nat), m.length - j = d → j ≤ m.length → r < 18446744073709551616 →
    Ev (fun k => tombolaref09_Pick.l0 k (ofN m) r j) (match pickN (m.drop j) r j with | some q => (q : Int) | none => -1) := by
  induction d with
  | zero =>
    intro j r hd hj hr
    obtain rfl : j = m.length := by omega
    rw [List.drop_length]
    refine ⟨1, fun k hk => ?_⟩
    obtain ⟨k, rfl⟩ : ∃ m, k = m + 1 := ⟨k - 1, by omega⟩
    simp only [tombolaref09_Pick.l0]
    rw [if_neg (by rw [ofN_length]; omega)]; rfl
  | succ d ih =>
    intro j r hd hj hr
    have hjl : j < m.length := by omega
    have hdrop : m.drop j = m.getD j 0 :: m.drop (j + 1) := by
      rw [List.drop_eq_getElem_cons hjl]
      simp [List.getD_eq_getElem?_getD, List.getElem?_eq_getElem hjl]
    have hw := words_get hm j
    have w1 : Aside0 (wrap64 ((j : Int) + 1) = ((j + 1 : Nat) : Int)) := ⟨by rw [i64w (by omega) (by omega)]; omega⟩
    rw [hdrop]
    simp only [pickN]
    by_cases hlt : r < m.getD j 0
    · rw [if_pos hlt]
      refine ⟨1, fun k hk => ?_⟩
      obtain ⟨k, rfl⟩ : ∃ m, k = m + 1 := ⟨k - 1, by omega⟩
      simp only [tombolaref09_Pick.l0]
      rw [if_pos (by rw [ofN_length]; omega), if_pos (Int.natCast_nonneg _), rd_ofN, if_pos (by omega)]
    · rw [if_neg hlt]
      have hn := ih (j + 1) (r - m.getD j 0) (by omega) hjl (by omega)
      have w2 : Aside0 (IntKind.u64.wrap ((r : Int) - ((m.getD j 0 : Nat) : Int)) = ((r - m.getD j 0 : Nat) : Int)) := ⟨by rw [u64w (by omega) (by omega)]; omega⟩
      refine Ev.step (fun k => ?_) hn
      simp only [tombolaref09_Pick.l0]
      rw [if_pos (by rw [ofN_length]; omega), if_pos (Int.natCast_nonneg _), rd_ofN, if_neg (by omega), w1.out, w2.out]
theorem rpick_ev (m : List Nat) (hm : Words m) (hl : m.length < 17592186044416) (r : Nat) (hr : r < 18446744073709551616) : Ev (fun k => tombolaref09_Pick.f k (ofN m) r) (pickI m r) := by
  have h := rpick_l0 m hm hl _ 0 r rfl (Nat.zero_le _) hr
  rw [List.drop_zero] at h
  exact h
theorem alive09_ev : Ev (fun k => tombolalaw09_alive.f k) true := by
  have w1 : Words [2, 0, 3] := fun n h => by simp at h; omega
  have w2 : Words [1, 18446744073709551615] := fun n h => by simp at h; omega
  have hp := pick_ev [2, 0, 3] w1 (by decide) 4 (by decide)
  have hs := spans_ev [2, 0, 3] w1 (by decide)
  have ht := total_ev [1, 18446744073709551615] w2 (by decide)
  rw [if_pos (by decide)] at hp hs
  rw [if_neg (by decide)] at ht
  have e1 : pickI [2, 0, 3] 4 = 2 := by decide
  rw [e1] at hp
  unfold tombolalaw09_alive.f
  simp only [Option.bind_some]
  refine Ev.bind hp (Ev.bind hs (Ev.bindN ht ?_))
  decide
end Go.Proofs.Ytogdooclldoomaa.N
