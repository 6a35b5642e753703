import Derived.Test.YtogdooclldoomaaWireRd
namespace Go.Proofs.Ytogdooclldoomaa.F
open Go.RowKit Go.Proofs.YtogdooclldoomaaW.PrintWords Go.Proofs.YtogdooclldoomaaW.PrintLast Go.Proofs.YtogdooclldoomaaW.PrintMore
set_option linter.unusedSimpArgs false
set_option linter.unusedVariables false
/-! Numbers and texts off a reader. -/
/-- How many bytes look tells. -/
theorem lookL_size (l : List Int) : ∀ (i : Nat) (n : Int), (lookL l i n).2.2 = 0 → (i : Int) < (lookL l i n).2.1 ∧ (lookL l i n).2.1 ≤ (i + l.length : Nat) := by
  induction l with
  | nil => intro i n h; exact absurd h (by simp [lookL])
  | cons c l ih =>
    intro i n h
    unfold lookL at h ⊢
    split at h
    · exact absurd h (by decide)
    · rename_i h1
      rw [if_neg h1]
      split at h
      · rename_i h2
        rw [if_pos h2]
        exact ⟨by simp only; omega, by simp only [List.length_cons]; omega⟩
      · rename_i h2
        rw [if_neg h2]
        have := ih (i + 1) _ h
        exact ⟨by omega, by simp only [List.length_cons]; omega⟩
/-- What Num reads. -/
def numR (l : List Int) (e top : Int) : Int × List Int × Int :=
  if e = 0 then
    if (lookL l 0 0).2.2 = 0 then
      if top < (lookL l 0 0).1 then (0, l, 6) else ((lookL l 0 0).1, l.drop (lookL l 0 0).2.1.toNat, 0)
    else (0, l, (lookL l 0 0).2.2)
  else (0, l, e)
theorem rd_cut {w0 : World} {l : List Int} (s : Int) (hs0 : 0 ≤ s) (hs1 : s ≤ (l.length : Int)) (A : Option Addr) (c : Nat) (hC : Kd.C (Kd.int .u8) w0 A l.length l) (hc : l.length ≤ c) :
    ∃ A' n' c', (∀ W : World, (Instr.slice 78 (.slice A l.length c) (some (.int .i64 s)) none none).run Try.prog W = .ok (.slice A' n' c') W) ∧ n' = (l.drop s.toNat).length ∧ Kd.C (Kd.int .u8) w0 A' (l.drop s.toNat).length (l.drop s.toNat) ∧ (l.drop s.toNat).length ≤ c' := by
  obtain ⟨i0, hi0, _, hsz, _⟩ := info_parts info5
  have h1 := cut_from (P := Try.prog) 78 5 .i64 Try.underlying78 hi0 1 hsz A l.length c s hs0 hs1
  have h2 := Kd.C_drop (m := s.toNat) hC (by omega) hc
  have e : (l.drop s.toNat).length = l.length - s.toNat := List.length_drop
  refine ⟨_, _, c - s.toNat, fun W => ?_, e.symm, h2, by omega⟩
  rw [h1 W]
  rfl
set_option maxHeartbeats 4000000 in
set_option maxRecDepth 100000 in
theorem wire_Reader_Num.own {g : Nat} {l : List Int} {e : Int} {w0 w : World} (top : Int) (hI : Rd w0 w g l e) (hB : Below w0.heap.size w0 w) :
    Calls Try.prog 59 #[.pointer (some ⟨g, 0, none⟩), .int .u64 top] w fun en w' => en = .returned (.int .u64 (numR l e top).1) ∧ RdW w0 w w' g (numR l e top).2.1 (numR l e top).2.2 := by
  have HW := Aside0.mk (RdW.refl hI hB)
  clear hI hB
  unfold numR
  by_cases h0 : e = 0
  · rw [if_pos h0]
    obtain ⟨n, s, er, hq⟩ : ∃ n s er, lookL l 0 0 = (n, s, er) := ⟨_, _, _, rfl⟩
    have HQ := Aside0.mk hq
    have HS : Aside0 (er = 0 → 0 ≤ s ∧ s ≤ (l.length : Int)) := ⟨fun h => by
      have := lookL_size l 0 0 (by rw [hq]; exact h)
      rw [hq] at this
      simp only at this
      omega⟩
    rw [hq]
    clear hq
    have b0 : (e != 0) = false := bne_eq_false_iff_eq.mpr h0
    have HE := Aside0.mk h0
    clear h0
    simp only
    by_cases h1 : er = 0
    · rw [if_pos h1]
      have b1 : (er == 0) = true := beq_iff_eq.mpr h1
      have b2 : (er != 0) = false := bne_eq_false_iff_eq.mpr h1
      obtain ⟨hs0, hs1⟩ := HS.out h1
      have HE1 := Aside0.mk h1
      clear h1
      by_cases h2 : top < n
      · rw [if_pos h2]
        have b3 : decide (top < n) = true := decide_eq_true h2
        clear h2 hs0 hs1
        go_enter Try.func59, Try.ntmps59
        go_wp2_with (first
          | (go_at_call 68; refine (wire_Reader_Err.own HW.out.rd).mono ?_; rintro en w9 ⟨rfl, hd⟩; have n1 := Aside0.mk (HW.out.drawn hd); clear HW hd; have HW := n1; clear n1)
          | (go_at_call 80; refine (wire_Reader_look.own HW.out.rd HW.out.below HQ.out).mono ?_; rintro en w9 ⟨rfl, hd⟩; have n1 := Aside0.mk (HW.out.drawn hd); clear HW hd; have HW := n1; clear n1)
          | (go_at_call 65; refine (wire_Reader_Fail.own 6 HW.out.rd HW.out.below).mono ?_; rintro en w9 ⟨rfl, hd⟩; rw [if_pos HE.out] at hd; have n1 := Aside0.mk (HW.out.trans hd); clear HW hd; have HW := n1; clear n1))
        all_goals go_ret
        all_goals exact ⟨rfl, HW.out.drawn (by repeat (first | exact Drawn0.refl _ | apply Drawn0.step))⟩
      · rw [if_neg h2]
        have b3 : decide (top < n) = false := decide_eq_false h2
        clear h2
        have CUT : ∀ (A : Option Addr) (c : Nat), Kd.C (Kd.int .u8) w0 A l.length l → l.length ≤ c → ∃ A' n' c', (∀ W : World, (Instr.slice 78 (.slice A l.length c) (some (.int .i64 s)) none none).run Try.prog W = .ok (.slice A' n' c') W) ∧ n' = (l.drop s.toNat).length ∧ Kd.C (Kd.int .u8) w0 A' (l.drop s.toNat).length (l.drop s.toNat) ∧ (l.drop s.toNat).length ≤ c' := rd_cut s hs0 hs1
        clear hs0 hs1
        go_enter Try.func59, Try.ntmps59
        go_wp2_with (first
          | (go_at_call 68; refine (wire_Reader_Err.own HW.out.rd).mono ?_; rintro en w9 ⟨rfl, hd⟩; have n1 := Aside0.mk (HW.out.drawn hd); clear HW hd; have HW := n1; clear n1)
          | (go_at_call 80; refine (wire_Reader_look.own HW.out.rd HW.out.below HQ.out).mono ?_; rintro en w9 ⟨rfl, hd⟩; have n1 := Aside0.mk (HW.out.drawn hd); clear HW hd; have HW := n1; clear n1; obtain ⟨A, c, hc, hC, hb, hg, hc0, hc1, hf0, hf1⟩ := HW.out.rd.facts; obtain ⟨A', n', c', hcut, hn', hC', hc'⟩ := CUT A c hC hc; have HC' := Aside0.mk hC'; have Hc' := Aside0.mk hc'; have Hn' := Aside0.mk hn'; clear hc hC hb hg hc1 hf1 hC' hc' hn'))
        all_goals go_ret
        all_goals (have HWl := HE.out)
        all_goals (rw [HE.out] at HW)
        all_goals exact ⟨rfl, (HW.out.drawn (by repeat (first | exact Drawn0.refl _ | apply Drawn0.step))).left Hn'.out HC'.out Hc'.out⟩
    · rw [if_neg h1]
      have b1 : (er == 0) = false := beq_eq_false_iff_ne.mpr h1
      have b2 : (er != 0) = true := bne_iff_ne.mpr h1
      clear h1
      go_enter Try.func59, Try.ntmps59
      go_wp2_with (first
        | (go_at_call 68; refine (wire_Reader_Err.own HW.out.rd).mono ?_; rintro en w9 ⟨rfl, hd⟩; have n1 := Aside0.mk (HW.out.drawn hd); clear HW hd; have HW := n1; clear n1)
        | (go_at_call 80; refine (wire_Reader_look.own HW.out.rd HW.out.below HQ.out).mono ?_; rintro en w9 ⟨rfl, hd⟩; have n1 := Aside0.mk (HW.out.drawn hd); clear HW hd; have HW := n1; clear n1)
        | (go_at_call 65; refine (wire_Reader_Fail.own er HW.out.rd HW.out.below).mono ?_; rintro en w9 ⟨rfl, hd⟩; rw [if_pos HE.out] at hd; have n1 := Aside0.mk (HW.out.trans hd); clear HW hd; have HW := n1; clear n1))
      all_goals go_ret
      all_goals exact ⟨rfl, HW.out.drawn (by repeat (first | exact Drawn0.refl _ | apply Drawn0.step))⟩
  · rw [if_neg h0]
    have b0 : (e != 0) = true := bne_iff_ne.mpr h0
    clear h0
    go_enter Try.func59, Try.ntmps59
    go_wp2_with (go_at_call 68; refine (wire_Reader_Err.own HW.out.rd).mono ?_; rintro en w9 ⟨rfl, hd⟩; have n1 := Aside0.mk (HW.out.drawn hd); clear HW hd; have HW := n1; clear n1)
    all_goals go_ret
    all_goals exact ⟨rfl, HW.out.drawn (by repeat (first | exact Drawn0.refl _ | apply Drawn0.step))⟩
end Go.Proofs.Ytogdooclldoomaa.F
