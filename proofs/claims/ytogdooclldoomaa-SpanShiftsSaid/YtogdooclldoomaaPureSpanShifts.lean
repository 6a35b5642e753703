/- A word that is taken away moves the others, and picks none of them for another one. Conditions: none beyond the row's own. -/
import Derived.Test.YtogdooclldoomaaPureSpan
import Derived.Test.YtogdooclldoomaaFLaw09SpanShifts
namespace Go.Proofs.Ytogdooclldoomaa.Pure
open Go Go.RowKit Go.Proofs.Ytogdooclldoomaa.F Go.Proofs.YtogdooclldoomaaW.PrintWords Go.Proofs.YtogdooclldoomaaW.PrintLast Go.Proofs.Ytogdooclldoomaa.Digs Go.Proofs.Ytogdooclldoomaa.N
set_option linter.unusedSimpArgs false
set_option linter.unusedVariables false

theorem pre_set_le {m : List Nat} {i j : Nat} (h : j ≤ i) : pre (m.set i 0) j = pre m j := by
  unfold pre
  rw [List.take_set_of_le h]
theorem pre_set_gt {m : List Nat} {i j : Nat} (h : i < j) (hi : i < m.length) (hj : j ≤ m.length) : pre (m.set i 0) j + m.getD i 0 = pre m j := by
  induction j with
  | zero => omega
  | succ j ih =>
    have hl : j < (m.set i 0).length := by rw [List.length_set]; omega
    rw [pre_succ hl, pre_succ (by omega)]
    rcases Nat.lt_or_ge i j with h1 | h1
    · have := ih h1 (by omega)
      have e : (m.set i 0).getD j 0 = m.getD j 0 := by
        rw [List.getD_eq_getElem?_getD, List.getD_eq_getElem?_getD, List.getElem?_set_ne (by omega)]
      rw [e]; omega
    · obtain rfl : i = j := by omega
      rw [pre_set_le (Nat.le_refl _)]
      have e : (m.set i 0).getD i 0 = 0 := by
        rw [List.getD_eq_getElem?_getD, List.getElem?_set_self hi]; rfl
      rw [e]; omega
theorem words_set {m : List Nat} (h : Words m) (i : Nat) : Words (m.set i 0) := fun n hn => by
  rcases List.mem_or_eq_of_mem_set hn with hn | rfl
  · exact h n hn
  · decide
/-- What is answered where nothing moves. -/
theorem shift_no (m : List Nat) (hm : Words m) (hl : m.length ≤ 200) (a : Int) (r : Nat) (hr : r < 18446744073709551616) (h : ¬ (m.sum < 18446744073709551616 ∧ r < m.sum) ∨ pickI m r = a ∨ a < 0 ∨ a ≥ m.length) :
    Ev (fun k => span_Shift.f k (ofN m) a r) (0, false) := by
  have hsp := spans_ev m hm (by omega)
  have hp := pick_ev m hm (by omega) r hr
  have hj : ∀ s, Ev (fun k => span_Shift.j0 k a r s true) (0, false) := fun s => Ev.step (f := fun _ => some (0, false)) (fun k => by simp [span_Shift.j0]) (Ev.now _)
  unfold span_Shift.f
  refine Ev.bind hsp (Ev.bind hp ?_)
  by_cases hin : m.sum < 18446744073709551616 ∧ r < m.sum
  · rw [if_pos hin]
    refine Ev.congr (fun k => if_pos rfl) ?_
    by_cases h1 : pickI m r = a
    · exact Ev.congr (fun k => if_pos h1) (hj _)
    · refine Ev.congr (fun k => if_neg h1) ?_
      by_cases h2 : a < 0
      · exact Ev.congr (fun k => if_pos h2) (hj _)
      · refine Ev.congr (fun k => if_neg h2) ?_
        have h3 : a ≥ ((ofN m).length : Int) := by
          rw [ofN_length]
          rcases h with h | h | h | h
          · exact absurd hin h
          · exact absurd h h1
          · exact absurd h h2
          · exact h
        rw [decide_eq_true h3]
        exact hj _
  · rw [if_neg hin]
    exact Ev.congr (fun k => if_neg (by simp)) (hj _)
theorem shift_yes (m : List Nat) (hm : Words m) (hl : m.length ≤ 200) (i r q : Nat) (hr : r < 18446744073709551616) (hi : i < m.length) (hs : m.sum < 18446744073709551616) (hlt : r < m.sum) (hq : pickN m r 0 = some q) (hne : q ≠ i) :
    Ev (fun k => span_Shift.f k (ofN m) i r) (((if r < pre m i then r else r - m.getD i 0 : Nat) : Int), true) := by
  have hsp := spans_ev m hm (by omega)
  have hp := pick_ev m hm (by omega) r hr
  rw [if_pos hs] at hsp
  rw [if_pos ⟨hs, hlt⟩] at hp
  have eq : pickI m r = (q : Int) := by unfold pickI; rw [hq]
  rw [eq] at hp
  obtain ⟨_, q2, q3, q4⟩ := pick_some hq
  rw [Nat.sub_zero] at q2 q3 q4
  unfold span_Shift.f
  refine Ev.bind hsp (Ev.bind hp ?_)
  refine Ev.congr (fun k => if_pos rfl) (Ev.congr (fun k => if_neg (by omega)) (Ev.congr (fun k => if_neg (by omega)) ?_))
  rw [decide_eq_false (by rw [ofN_length]; omega)]
  refine Ev.step (f := fun _ => some (((if r < pre m i then r else r - m.getD i 0 : Nat) : Int), true)) (fun k => ?_) (Ev.now _)
  simp only [span_Shift.j0]
  rw [if_neg (by decide), if_pos (Int.natCast_nonneg _), if_pos (by rw [spansOf_length]; omega), rd_spans m i hi]
  by_cases hb : r < pre m i
  · rw [if_pos (by exact Int.ofNat_lt.2 hb), if_pos hb]
  · rw [if_neg (fun h => hb (Int.ofNat_lt.1 h)), if_neg hb]
    have hqi : i < q := by
      rcases Nat.lt_trichotomy i q with h | h | h
      · exact h
      · exact absurd h.symm hne
      · have := pre_mono (m := m) (i := q + 1) (j := i) h (by omega); rw [pre_succ q2] at this; omega
    have h5 := pre_mono (m := m) (i := i + 1) (j := q) hqi (by omega)
    rw [pre_succ hi] at h5
    have e : IntKind.u64.wrap ((r : Int) - ((m.getD i 0 : Nat) : Int)) = ((r - m.getD i 0 : Nat) : Int) := by rw [u64w (by omega) (by omega)]; omega
    rw [e]
theorem ev_shifts (m : List Nat) (hm : Words m) (a : Int) (r : Nat) (hr : r < 18446744073709551616) : Ev (fun k => tombolalaw09_SpanShifts.f k (ofN m) a r) true := by
  unfold tombolalaw09_SpanShifts.f
  by_cases hl : m.length ≤ 200
  · refine Ev.congr (fun k => if_neg (by rw [ofN_length]; omega)) ?_
    have hp := pick_ev m hm (by omega) r hr
    have hno : ∀ p : Int, Ev (fun k => tombolalaw09_SpanShifts.j0 k (ofN m) a r 0 false p true) true := fun p => by
      refine Ev.step (f := fun k => (tombolalaw09_alive.f k).bind fun t106 => some t106) (fun k => ?_) (Ev.bindN alive09_ev rfl)
      simp [tombolalaw09_SpanShifts.j0]
    by_cases hbad : ¬ (m.sum < 18446744073709551616 ∧ r < m.sum) ∨ pickI m r = a ∨ a < 0 ∨ a ≥ m.length
    · refine Ev.bind (shift_no m hm hl a r hr hbad) (Ev.bind hp ?_)
      by_cases h1 : a < 0
      · exact Ev.congr (fun k => if_pos h1) (hno _)
      · refine Ev.congr (fun k => if_neg h1) ?_
        by_cases h2 : a ≥ ((ofN m).length : Int)
        · exact Ev.congr (fun k => if_pos h2) (hno _)
        · refine Ev.congr (fun k => if_neg h2) ?_
          by_cases hin : m.sum < 18446744073709551616 ∧ r < m.sum
          · rw [if_pos hin]
            refine Ev.congr (fun k => if_pos rfl) ?_
            have h3 : pickI m r = a := by
              rw [ofN_length] at h2
              rcases hbad with h | h | h | h
              · exact absurd hin h
              · exact h
              · exact absurd h h1
              · exact absurd h h2
            rw [h3, beq_self_eq_true]
            exact hno _
          · rw [if_neg hin]
            exact Ev.congr (fun k => if_neg (by simp)) (hno _)
    · have hin : m.sum < 18446744073709551616 ∧ r < m.sum := Classical.byContradiction fun h => hbad (.inl h)
      have hna : pickI m r ≠ a := fun h => hbad (.inr (.inl h))
      have ha0 : ¬ a < 0 := fun h => hbad (.inr (.inr (.inl h)))
      have ha1 : ¬ a ≥ m.length := fun h => hbad (.inr (.inr (.inr h)))
      obtain ⟨i, rfl⟩ := Int.eq_ofNat_of_zero_le (Int.not_lt.1 ha0)
      have hi : i < m.length := by omega
      obtain ⟨hs, hlt⟩ := hin
      obtain ⟨q, hq⟩ := pick_lt (i := 0) hlt
      have eq : pickI m r = (q : Int) := by unfold pickI; rw [hq]
      rw [if_pos ⟨hs, hlt⟩, eq] at hp
      have hne : q ≠ i := fun h => hna (by rw [eq, h])
      have hsh := shift_yes m hm hl i r q hr hi hs hlt hq hne
      obtain ⟨_, q2, q3, q4⟩ := pick_some hq
      rw [Nat.sub_zero] at q2 q3 q4
      -- the words without one of them
      have hl2 : (m.set i 0).length = m.length := List.length_set ..
      have hw2 := words_set hm i
      have hsum : (m.set i 0).sum + m.getD i 0 = m.sum := by
        have := pre_set_gt (m := m) (i := i) (j := m.length) hi hi (Nat.le_refl _)
        rw [pre_all] at this
        have e : pre (m.set i 0) m.length = (m.set i 0).sum := by rw [← hl2, pre_all]
        omega
      have hgq : (m.set i 0).getD q 0 = m.getD q 0 := by
        rw [List.getD_eq_getElem?_getD, List.getD_eq_getElem?_getD, List.getElem?_set_ne (by omega)]
      obtain ⟨n, hn, hn1, hn2, hn3⟩ : ∃ n, n = (if r < pre m i then r else r - m.getD i 0) ∧ n ≤ r ∧ pre (m.set i 0) q ≤ n ∧ n < pre (m.set i 0) q + m.getD q 0 := by
        refine ⟨_, rfl, ?_⟩
        rcases Nat.lt_trichotomy q i with h | h | h
        · have h5 := pre_mono (m := m) (i := q + 1) (j := i) h (by omega)
          rw [pre_succ q2] at h5
          rw [if_pos (by omega), pre_set_le (by omega)]
          exact ⟨Nat.le_refl _, q3, q4⟩
        · exact absurd h hne
        · have h5 := pre_mono (m := m) (i := i + 1) (j := q) h (by omega)
          rw [pre_succ hi] at h5
          have h6 := pre_set_gt (m := m) (i := i) (j := q) h hi (by omega)
          rw [if_neg (by omega)]
          omega
      rw [← hn] at hsh
      have hpn : pickN (m.set i 0) n 0 = some q := pick_one (by rw [hl2]; exact q2) hn2 (by rw [hgq]; exact hn3)
      have hnlt : n < (m.set i 0).sum := by
        have h5 := pre_le_sum (m.set i 0) (j := q + 1) (by rw [hl2]; exact q2)
        rw [pre_succ (by rw [hl2]; exact q2), hgq] at h5
        omega
      have hp2 := pick_ev (m.set i 0) hw2 (by rw [hl2]; omega) n (by omega)
      rw [if_pos ⟨by omega, hnlt⟩] at hp2
      have eq2 : pickI (m.set i 0) n = (q : Int) := by unfold pickI; rw [hpn]
      rw [eq2] at hp2
      have ht2 := total_ev (m.set i 0) hw2 (by rw [hl2]; omega)
      rw [if_pos (by omega)] at ht2
      refine Ev.bind hsh (Ev.bind hp ?_)
      refine Ev.congr (fun k => if_neg (by omega)) (Ev.congr (fun k => if_neg (by rw [ofN_length]; omega)) (Ev.congr (fun k => if_pos rfl) ?_))
      have e3 : ((q : Int) == (i : Int)) = false := beq_eq_false_iff_ne.2 (by omega)
      simp only [e3]
      have hset : (ofN m).set i 0 = ofN (m.set i 0) := ofN_set m i 0
      refine Ev.step (f := fun k => (span_Pick.f k (ofN (m.set i 0)) n).bind fun bt114 => ((span_Total.f k (ofN (m.set i 0))).bind fun bt116 => (if bt114.2 = true then (if bt114.1 = (q : Int) then (if (n : Int) < bt116.1 then (if (n : Int) ≤ r then ((tombolalaw09_alive.f k).bind fun t118 => (some t118)) else (some false)) else (some false)) else (some false)) else (some false)))) (fun k => ?_) ?_
      · simp only [tombolalaw09_SpanShifts.j0, Bool.false_eq_true, if_false, Option.bind_some, List.nil_append, List.length_nil, Nat.zero_add]
        rw [if_pos (by rw [ofN_length]; omega), if_pos (Int.natCast_nonneg _), if_pos (by rw [ofN_length]; omega), Int.toNat_natCast, hset]
        simp only [if_true]
      · refine Ev.bind hp2 (Ev.bind ht2 ?_)
        exact Ev.congr (fun k => by rw [if_pos rfl, if_pos rfl, if_pos (by omega), if_pos (by omega)]) (Ev.bindN alive09_ev rfl)
  · exact Ev.congr (fun k => if_pos (by rw [ofN_length]; omega)) (Ev.bindN alive09_ev rfl)
/-- The walk. -/
theorem mainSpanShifts (A0 : Option Addr) (c0 : Nat) (l0 : List Int) (a1 a2 : Int) (w : World) (hr0 : Kd.C (Kd.int .u64) w A0 l0.length l0) (hc0 : l0.length ≤ c0) (w0 : (∀ x, x ∈ l0 → (Lit.int .u64 x).wf = true) ∧ l0.length ≤ 9223372036854775807) (_y0 : l0.length * 8 ≤ 140737488351232) (_w1 : (Lit.int .i64 a1).wf = true) (w2 : (Lit.int .u64 a2).wf = true) :
    Calls Try.prog 4 #[.slice A0 l0.length c0, .int .i64 a1, .int .u64 a2] w fun e w' => e = .returned (.bool true) ∧ Below w.heap.size w w' := by
  obtain ⟨m, rfl, hm⟩ := ofN_of l0 w0.1
  have h2 : 0 ≤ a2 ∧ a2 ≤ 18446744073709551615 := by simpa [Lit.wf, IntKind.min, IntKind.max, IntKind.signed, IntKind.bits] using w2
  obtain ⟨r, rfl⟩ := Int.eq_ofNat_of_zero_le h2.1
  obtain ⟨k, h⟩ := Ev.rounds (ev_shifts m hm a1 r (by omega))
  exact (tombolalaw09_SpanShifts.calls k A0 c0 (ofN m) a1 r true ⟨rfl⟩ w hr0 hc0 h).mono fun e w' ⟨he, hb⟩ => ⟨he, hb⟩
end Go.Proofs.Ytogdooclldoomaa.Pure
