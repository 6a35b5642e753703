-- Cut for this claim by a program (wip/prune.py) out of the texts that its bench laid or wrote
import Derived.Test.YtjphoempoinedaaSpan
import Derived.Test.YtjphoempoinedaaNat1
import Derived.Test.YtjphoempoinedaaFRef09A
namespace Go.Proofs.Ytjphoempoinedaa.N
open Go Go.RowKit Go.Proofs.Ytjphoempoinedaa.F Go.Proofs.YtjphoempoinedaaW.PrintWords Go.Proofs.YtjphoempoinedaaW.PrintLast Go.Proofs.YtjphoempoinedaaW.PrintMore Go.Proofs.Ytjphoempoinedaa.Digs
set_option linter.unusedSimpArgs false
set_option linter.unusedVariables false
theorem rtotal_l0 (m : List Nat) (hm : Words m) (hl : m.length < 17592186044416) (d : Nat) : ∀ (j : Nat), m.length - j = d → j ≤ m.length →
    Ev (fun k => tombolaref09_Total.l0 k (ofN m) j (digs (pre m j))) (if m.sum < 18446744073709551616 then ((m.sum : Int), true) else (0, false)) := by
  have hbound : ∀ j, j ≤ m.length → (digs (pre m j)).length < 1000000 := by
    intro j hj
    have h1 : pre m j ≤ j * 18446744073709551616 := by
      clear hl
      induction j with
      | zero => rw [pre_zero]; exact Nat.zero_le _
      | succ j ih =>
        have := ih (by omega)
        have hw := words_get hm j
        rw [pre_succ (by omega)]; omega
    have h2 : pre m j < 65536 ^ 10 := by
      rw [show (65536 : Nat) ^ 10 = 1461501637330902918203684832716283019655932542976 from by decide]; omega
    have := (digs_len_le (pre m j) 10).2 h2
    omega
  induction d with
  | zero =>
    intro j hd hj
    obtain rfl : j = m.length := by omega
    rw [pre_all]
    have hw : Ev (fun k => tombolaref01_Word.f k (digs m.sum)) (if m.sum < 18446744073709551616 then ((m.sum : Int), true) else (0, false)) := by
      by_cases h : m.sum < 18446744073709551616
      · rw [if_pos h]; exact word_ev _ h
      · rw [if_neg h]; exact word_no _ (Nat.le_of_not_lt h)
    refine Ev.step (fun k => ?_) (Ev.bindN hw rfl)
    simp only [tombolaref09_Total.l0]
    rw [if_neg (by rw [ofN_length]; omega)]
  | succ d ih =>
    intro j hd hj
    have hjl : j < m.length := by omega
    have hn := ih (j + 1) (by omega) hjl
    rw [pre_succ hjl] at hn
    have hw := words_get hm j
    have hb1 := hbound j hj
    have hb2 := u64_len hw
    have ha := add_ev (pre m j) (m.getD j 0) (by omega) (by omega)
    have w1 : Aside0 (wrap64 ((j : Int) + 1) = ((j + 1 : Nat) : Int)) := ⟨by rw [i64w (by omega) (by omega)]; omega⟩
    refine Ev.step (f := fun k => (tombolaref01_Of.f k ((m.getD j 0 : Nat) : Int)).bind fun t103 => ((tombolaref01_Add.f k (digs (pre m j)) t103).bind fun t106 => (tombolaref09_Total.l0 k (ofN m) ((j + 1 : Nat) : Int) t106))) (fun k => ?_) ?_
    · simp only [tombolaref09_Total.l0]
      rw [if_pos (by rw [ofN_length]; omega), if_pos (Int.natCast_nonneg _), rd_ofN, w1.out]
    · exact Ev.bind (of_ev _ hw) (Ev.bind ha hn)
theorem rtotal_ev (m : List Nat) (hm : Words m) (hl : m.length < 17592186044416) : Ev (fun k => tombolaref09_Total.f k (ofN m)) (if m.sum < 18446744073709551616 then ((m.sum : Int), true) else (0, false)) := by
  have h := rtotal_l0 m hm hl _ 0 rfl (Nat.zero_le _)
  rw [pre_zero, digs_zero] at h
  exact h
end Go.Proofs.Ytjphoempoinedaa.N
