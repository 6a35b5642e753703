import Derived.Test.YtjphoempoinedaaPureDraw
namespace Go.Proofs.Ytjphoempoinedaa.N
open Go Go.RowKit Go.Proofs.Ytjphoempoinedaa.F Go.Proofs.YtjphoempoinedaaW.PrintWords Go.Proofs.YtjphoempoinedaaW.PrintLast Go.Proofs.YtjphoempoinedaaW.PrintMore Go.Proofs.Ytjphoempoinedaa.Digs
set_option linter.unusedSimpArgs false
set_option linter.unusedVariables false
theorem dw_j2 (t w : Nat) (ht : t < 18446744073709551616) (hw : w < 18446744073709551616) : Ev (fun k => tombolalaw08_DrawWords.j2 k (t : Int) (w : Int) false) true := by
  by_cases hk : takenN t w = true
  · have h0 := of_decide_eq_true hk
    have hd := Nat.div_add_mod w t
    have hr : w % t < t := Nat.mod_lt _ h0.1
    have hq : w / t < 18446744073709551616 / t := by
      have h2 : restN t = 18446744073709551616 % t := by unfold restN; rw [if_neg (by omega)]
      have h1 := Nat.div_add_mod 18446744073709551616 t
      have h3 : w < t * (18446744073709551616 / t) := by
        have h4 := h0.2
        rw [h2] at h4
        generalize t * (18446744073709551616 / t) = a at h1 ⊢
        generalize 18446744073709551616 % t = b at h1 h4
        omega
      exact (Nat.div_lt_iff_lt_mul h0.1).2 (by rw [Nat.mul_comm]; exact h3)
    have hwd : w / t < 18446744073709551616 := Nat.lt_of_le_of_lt (Nat.div_le_self _ _) hw
    have hy : wordN t (w % t) (w / t) = ((w : Int), true) := by
      unfold wordN
      rw [if_pos ⟨hr, hq⟩, Nat.mul_comm, Nat.add_comm, hd]
    refine Ev.step (f := fun k => (draw_Word.f k (t : Int) ((w % t : Nat) : Int) ((w / t : Nat) : Int)).bind fun bt110 => (if bt110.2 = true then (if bt110.1 = (w : Int) then ((tombolalaw08_alive.f).bind fun t112 => (some t112)) else (some false)) else (some false))) (fun k => ?_) ?_
    · simp only [tombolalaw08_DrawWords.j2]
      rw [if_neg (by decide), tell_eq t w ht]
      unfold tellN
      rw [if_pos hk]
      simp only [Option.bind_some]
      rw [if_pos trivial, if_neg (by omega), Int.tdiv_eq_ediv_of_nonneg (by omega), ← Int.natCast_ediv, u64w (Int.natCast_nonneg _) (Int.ofNat_lt.2 hwd)]
    · refine Ev.bindN (wordw_ev t (w % t) (w / t) ht hwd) ?_
      rw [hy]
      simp [alive08]
  · refine Ev.step (f := fun _ => some true) (fun k => ?_) (ev_some _)
    simp only [tombolalaw08_DrawWords.j2]
    rw [if_neg (by decide), tell_eq t w ht]
    unfold tellN
    rw [if_neg hk]
    simp [alive08]
theorem dw_j1 (t r kk w : Nat) (ht : t < 18446744073709551616) (hkk : kk < 18446744073709551616) (hw : w < 18446744073709551616) : Ev (fun k => tombolalaw08_DrawWords.j1 k (t : Int) (r : Int) (kk : Int) (w : Int) (wordN t r kk).1 (wordN t r kk).2 false) true := by
  refine Ev.step (f := fun k => tombolalaw08_DrawWords.j2 k (t : Int) (w : Int) false) (fun k => ?_) (dw_j2 t w ht hw)
  simp only [tombolalaw08_DrawWords.j1]
  rw [if_neg (by decide)]
  unfold wordN
  by_cases h : r < t ∧ kk < 18446744073709551616 / t
  · rw [if_pos h]
    have hle := word_le h.1 h.2
    have htk : takenN t (r + kk * t) = true := decide_eq_true ⟨by omega, hle⟩
    rw [tell_eq t (r + kk * t) ht]
    unfold tellN
    rw [if_pos htk]
    simp only [Option.bind_some]
    have e1 : (r + kk * t) % t = r := by rw [Nat.add_mul_mod_self_right, Nat.mod_eq_of_lt h.1]
    have e2 : (r + kk * t) / t = kk := by rw [Nat.add_mul_div_right _ _ (by omega), Nat.div_eq_of_lt h.1, Nat.zero_add]
    rw [if_pos trivial, if_pos trivial, if_pos (by rw [e1]), if_neg (by omega), Int.tdiv_eq_ediv_of_nonneg (Int.natCast_nonneg _), ← Int.natCast_ediv, e2, u64w (by omega) (by omega), bne_self_eq_false]
  · rw [if_neg h]
    have e0 : (0 : Int) = ((0 : Nat) : Int) := rfl
    rw [e0, tell_eq t 0 ht]
    simp
theorem pureDrawWords : tombolalaw08_DrawWords.Pure := by
  intro a0 a1 a2 a3 w0 w1 w2 w3
  obtain ⟨t, rfl, ht⟩ := wfD w0
  obtain ⟨r, rfl, hr⟩ := wfD w1
  obtain ⟨kk, rfl, hkk⟩ := wfD w2
  obtain ⟨w, rfl, hw⟩ := wfD w3
  refine Ev.rounds ?_
  unfold tombolalaw08_DrawWords.f
  refine Ev.bind (wordw_ev t r kk ht hkk) ?_
  refine Ev.bind (each_ev t ht) ?_
  refine Ev.congr (f := fun k => tombolalaw08_DrawWords.j0 k (t : Int) (r : Int) (kk : Int) (w : Int) (wordN t r kk).1 (wordN t r kk).2 (decide (kk < 18446744073709551616 / t))) (fun k => ?_) ?_
  · generalize 18446744073709551616 / t = q
    by_cases h : q < 18446744073709551616
    · rw [if_neg (by omega)]
      congr 1
      apply Bool.eq_iff_iff.2
      rw [decide_eq_true_eq, decide_eq_true_eq]
      omega
    · rw [if_pos (by omega), decide_eq_true (by omega)]
  · refine Ev.step (f := fun k => tombolalaw08_DrawWords.j1 k (t : Int) (r : Int) (kk : Int) (w : Int) (wordN t r kk).1 (wordN t r kk).2 false) (fun k => ?_) (dw_j1 t r kk w ht hkk hw)
    simp only [tombolalaw08_DrawWords.j0]
    by_cases h1 : r < t
    · rw [if_pos (by omega)]
      by_cases h2 : kk < 18446744073709551616 / t
      · have hv : wordN t r kk = (((r + kk * t : Nat) : Int), true) := by unfold wordN; rw [if_pos ⟨h1, h2⟩]
        rw [hv, decide_eq_true h2]; rfl
      · have hv : wordN t r kk = (0, false) := by unfold wordN; rw [if_neg (fun h => h2 h.2)]
        rw [hv, decide_eq_false h2]; rfl
    · have hv : wordN t r kk = (0, false) := by unfold wordN; rw [if_neg (fun h => h1 h.1)]
      rw [if_neg (by omega), hv]; rfl
theorem mainDrawWords (a0 a1 a2 a3 : Int) (w : World) (w0 : (Lit.int .u64 a0).wf = true) (w1 : (Lit.int .u64 a1).wf = true) (w2 : (Lit.int .u64 a2).wf = true) (w3 : (Lit.int .u64 a3).wf = true) :
    Calls Try.prog 4 #[.int .u64 a0, .int .u64 a1, .int .u64 a2, .int .u64 a3] w fun e w' => e = .returned (.bool true) ∧ Below w.heap.size w w' := tombolalaw08_DrawWords.walk pureDrawWords a0 a1 a2 a3 w w0 w1 w2 w3
end Go.Proofs.Ytjphoempoinedaa.N
