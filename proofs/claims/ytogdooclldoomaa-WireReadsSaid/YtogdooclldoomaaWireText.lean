import Derived.Test.YtogdooclldoomaaWireInt
namespace Go.Proofs.Ytogdooclldoomaa.F
open Go.RowKit Go.Proofs.YtogdooclldoomaaW.PrintWords Go.Proofs.YtogdooclldoomaaW.PrintLast Go.Proofs.YtogdooclldoomaaW.PrintMore
set_option linter.unusedSimpArgs false
set_option linter.unusedVariables false
theorem bits_or_range (x y : Int) : 0 ≤ Go.bits .or .u64 x y ∧ Go.bits .or .u64 x y < 18446744073709551616 := by
  unfold Go.bits
  simp only [IntKind.wrap, IntKind.bits, IntKind.signed]
  constructor
  · first | exact Int.emod_nonneg _ (by decide) | (simp; omega) | omega
  · first | exact Int.emod_lt_of_pos _ (by decide) | (simp; omega) | omega
theorem lookL_range (l : List Int) : ∀ (i : Nat) (n : Int), 0 ≤ (lookL l i n).1 ∧ (lookL l i n).1 < 18446744073709551616 := by
  induction l with
  | nil => intro i n; exact ⟨by simp [lookL], by simp [lookL]⟩
  | cons c l ih =>
    intro i n
    unfold lookL
    split
    · exact ⟨by decide, by decide⟩
    · split
      · exact bits_or_range _ _
      · exact ih _ _
theorem numR_range (l : List Int) (e top : Int) : 0 ≤ (numR l e top).1 ∧ ((numR l e top).1 ≤ top ∨ (numR l e top).1 = 0) := by
  unfold numR
  have := (lookL_range l 0 0).1
  split
  · split
    · split
      · exact ⟨Int.le_refl 0, .inr rfl⟩
      · rename_i h; exact ⟨this, .inl (by simp only; omega)⟩
    · exact ⟨Int.le_refl 0, .inr rfl⟩
  · exact ⟨Int.le_refl 0, .inr rfl⟩
theorem top_wrap (top : Int) (h : top ≤ 9223372036854775807) : 0 ≤ IntKind.u64.wrap (mx top 0) ∧ IntKind.u64.wrap (mx top 0) ≤ 9223372036854775807 := by
  have e : IntKind.u64.wrap (mx top 0) = (mx top 0) % 18446744073709551616 := by simp [IntKind.wrap, IntKind.bits, IntKind.signed]
  rw [e]
  have hm : 0 ≤ mx top 0 ∧ mx top 0 ≤ 9223372036854775807 := by unfold mx; split <;> omega
  generalize mx top 0 = m at hm ⊢
  omega
theorem intR_range (l : List Int) (e top : Int) (h : top ≤ 9223372036854775807) : 0 ≤ (intR l e top).1 ∧ (intR l e top).1 = (numR l e (IntKind.u64.wrap (mx top 0))).1 := by
  unfold intR
  have h1 := numR_range l e (IntKind.u64.wrap (mx top 0))
  have h2 := top_wrap top h
  simp only
  generalize (numR l e (IntKind.u64.wrap (mx top 0))).1 = q at h1 ⊢
  generalize IntKind.u64.wrap (mx top 0) = t at h1 h2
  unfold wrap64
  omega
/-- What Text reads. -/
def textR (l : List Int) (e top : Int) : ByteArray × List Int × Int :=
  if e = 0 then
    if (intR l 0 top).2.2 = 0 then
      if ((intR l 0 top).2.1.length : Int) < (intR l 0 top).1 then (ByteArray.empty, l, 4)
      else (strOfNums ((intR l 0 top).2.1.take (intR l 0 top).1.toNat), (intR l 0 top).2.1.drop (intR l 0 top).1.toNat, 0)
    else (ByteArray.empty, l, (intR l 0 top).2.2)
  else (ByteArray.empty, l, e)
theorem rd_cut_to {w0 : World} {l : List Int} (s : Int) (hs0 : 0 ≤ s) (hs1 : s ≤ (l.length : Int)) (A : Option Addr) (c : Nat) (hC : Kd.C (Kd.int .u8) w0 A l.length l) (hc : l.length ≤ c) :
    (∀ W : World, (Instr.slice 78 (.slice A l.length c) none (some (.int .i64 s)) none).run Try.prog W = .ok (.slice A s.toNat c) W) ∧ Kd.C (Kd.int .u8) w0 A s.toNat (l.take s.toNat) := by
  obtain ⟨i0, hi0, _, hsz, _⟩ := info_parts info5
  refine ⟨cut_to (P := Try.prog) 78 5 .i64 Try.underlying78 hi0 A l.length c s hs0 hs1 hc, ?_⟩
  have h2 := Kd.C_take (m := s.toNat) hC (by omega)
  have e : (l.take s.toNat).length = s.toNat := by rw [List.length_take]; omega
  rw [e] at h2
  exact h2
set_option maxHeartbeats 4000000 in
set_option maxRecDepth 100000 in
theorem wire_Reader_Text.own {g : Nat} {l : List Int} {e : Int} {w0 w : World} (top : Int) (htop : top ≤ 9223372036854775807) (hI : Rd w0 w g l e) (hB : Below w0.heap.size w0 w) :
    Calls Try.prog 63 #[.pointer (some ⟨g, 0, none⟩), .int .i64 top] w fun en w' => en = .returned (.string (textR l e top).1) ∧ RdW w0 w w' g (textR l e top).2.1 (textR l e top).2.2 := by
  have HW := Aside0.mk (RdW.refl hI hB)
  have HT := Aside0.mk htop
  clear hI hB htop
  unfold textR
  by_cases h0 : e = 0
  · rw [if_pos h0]
    have b0 : (e != 0) = false := bne_eq_false_iff_eq.mpr h0
    have HE := Aside0.mk h0
    clear h0
    obtain ⟨n, l2, e2, hq⟩ : ∃ n l2 e2, intR l 0 top = (n, l2, e2) := ⟨_, _, _, rfl⟩
    have HQ := Aside0.mk hq
    have hn0 : 0 ≤ n := by have := (intR_range l 0 top HT.out).1; rw [hq] at this; exact this
    rw [hq]
    clear hq
    simp only
    by_cases h1 : e2 = 0
    · rw [if_pos h1]
      have b1 : (e2 == 0) = true := beq_iff_eq.mpr h1
      have HE2 := Aside0.mk h1
      by_cases h2 : (l2.length : Int) < n
      · rw [if_pos h2]
        have b3 : decide ((l2.length : Int) < n) = true := decide_eq_true h2
        clear h1 h2 hn0
        go_enter Try.func63, Try.ntmps63
        go_wp2_with (first
          | (go_at_call 68; refine (wire_Reader_Err.own HW.out.rd).mono ?_; rintro en w9 ⟨rfl, hd⟩; have n1 := Aside0.mk (HW.out.drawn hd); clear HW hd; have HW := n1; clear n1; obtain ⟨A, c, hc, hC, hb, hg, hc0, hc1, hf0, hf1⟩ := HW.out.rd.facts; have HC := Aside0.mk hC; have Hc := Aside0.mk hc; clear hc hC hb hg hc1 hf0 hf1)
          | (go_at_call 61; with_reducible refine (wire_Reader_Int.own top HW.out.rd HW.out.below).mono ?_; rintro en w9 ⟨he, hd⟩; rw [HE.out, HQ.out] at he hd; subst he; have n1 := Aside0.mk (HW.out.trans hd); clear HW hd; have HW := n1; clear n1; clear hc0; obtain ⟨A2, c2, hc2, hC2, hb2, hg2, hd0, hd1, hg0, hg1⟩ := HW.out.rd.facts; have HC2 := Aside0.mk hC2; have Hc2 := Aside0.mk hc2; clear hc2 hC2 hb2 hg2 hg1)
          | (go_at_call 65; refine (wire_Reader_Fail.own 4 HW.out.rd HW.out.below).mono ?_; rintro en w9 ⟨rfl, hd⟩; rw [if_pos HE2.out] at hd; have n1 := Aside0.mk (HW.out.trans hd); clear HW hd; have HW := n1; clear n1; clear hd0 hd1 hg0; obtain ⟨A3, c3, hc3, hC3, hb3, hg3, hd0, hd1, hg0, hg1⟩ := HW.out.rd.facts; clear hc3 hC3 hb3 hg3 hg1))
        all_goals go_ret
        all_goals exact ⟨rfl, (HW.out.drawn (by repeat (first | exact Drawn0.refl _ | apply Drawn0.step))).left rfl HC.out Hc.out⟩
      · rw [if_neg h2]
        have b2 : (e2 != 0) = false := bne_eq_false_iff_eq.mpr h1
        have b3 : decide ((l2.length : Int) < n) = false := decide_eq_false h2
        have CUT : ∀ (A : Option Addr) (c : Nat), Kd.C (Kd.int .u8) w0 A l2.length l2 → l2.length ≤ c → _ := rd_cut n hn0 (by omega)
        have TAKE : ∀ (A : Option Addr) (c : Nat), Kd.C (Kd.int .u8) w0 A l2.length l2 → l2.length ≤ c → _ := rd_cut_to n hn0 (by omega)
        clear h1 h2 hn0
        go_enter Try.func63, Try.ntmps63
        go_wp2_with (first
          | (go_at_call 68; refine (wire_Reader_Err.own HW.out.rd).mono ?_; rintro en w9 ⟨rfl, hd⟩; have n1 := Aside0.mk (HW.out.drawn hd); clear HW hd; have HW := n1; clear n1; obtain ⟨A, c, hc, hC, hb, hg, hc0, hc1, hf0, hf1⟩ := HW.out.rd.facts; clear hc hC hb hg hc1 hf0 hf1)
          | (go_at_call 61; with_reducible refine (wire_Reader_Int.own top HW.out.rd HW.out.below).mono ?_; rintro en w9 ⟨he, hd⟩; rw [HE.out, HQ.out] at he hd; subst he; have n1 := Aside0.mk (HW.out.trans hd); clear HW hd; have HW := n1; clear n1; clear hc0; obtain ⟨A2, c2, hc2, hC2, hb2, hg2, hd0, hd1, hg0, hg1⟩ := HW.out.rd.facts; obtain ⟨A', n', c', hcut, hn', hC', hc'⟩ := CUT A2 c2 hC2 hc2; obtain ⟨htk, hCt⟩ := TAKE A2 c2 hC2 hc2; have hcv := Kd.C_string (P := Try.prog) (A := A2) (c := c2) Try.underlying78 Try.underlying5 Try.underlying9 (Kd.C_below hCt HW.out.below); have HC' := Aside0.mk hC'; have Hc' := Aside0.mk hc'; have Hn' := Aside0.mk hn'; clear hc2 hC2 hb2 hg2 hg1 hC' hc' hn' hCt))
        all_goals go_ret
        all_goals exact ⟨rfl, HE2.out ▸ (HW.out.drawn (by repeat (first | exact Drawn0.refl _ | apply Drawn0.step))).left Hn'.out HC'.out Hc'.out⟩
    · rw [if_neg h1]
      have b1 : (e2 == 0) = false := beq_eq_false_iff_ne.mpr h1
      have b2 : (e2 != 0) = true := bne_iff_ne.mpr h1
      clear h1 hn0
      go_enter Try.func63, Try.ntmps63
      go_wp2_with (first
        | (go_at_call 68; refine (wire_Reader_Err.own HW.out.rd).mono ?_; rintro en w9 ⟨rfl, hd⟩; have n1 := Aside0.mk (HW.out.drawn hd); clear HW hd; have HW := n1; clear n1; obtain ⟨A, c, hc, hC, hb, hg, hc0, hc1, hf0, hf1⟩ := HW.out.rd.facts; have HC := Aside0.mk hC; have Hc := Aside0.mk hc; clear hc hC hb hg hc1 hf0 hf1)
        | (go_at_call 61; with_reducible refine (wire_Reader_Int.own top HW.out.rd HW.out.below).mono ?_; rintro en w9 ⟨he, hd⟩; rw [HE.out, HQ.out] at he hd; subst he; have n1 := Aside0.mk (HW.out.trans hd); clear HW hd; have HW := n1; clear n1; clear hc0; obtain ⟨A2, c2, hc2, hC2, hb2, hg2, hd0, hd1, hg0, hg1⟩ := HW.out.rd.facts; have HC2 := Aside0.mk hC2; have Hc2 := Aside0.mk hc2; clear hc2 hC2 hb2 hg2 hg1))
      all_goals go_ret
      all_goals exact ⟨rfl, (HW.out.drawn (by repeat (first | exact Drawn0.refl _ | apply Drawn0.step))).left rfl HC.out Hc.out⟩
  · rw [if_neg h0]
    have b0 : (e != 0) = true := bne_iff_ne.mpr h0
    clear h0
    go_enter Try.func63, Try.ntmps63
    go_wp2_with (go_at_call 68; refine (wire_Reader_Err.own HW.out.rd).mono ?_; rintro en w9 ⟨rfl, hd⟩; have n1 := Aside0.mk (HW.out.drawn hd); clear HW hd; have HW := n1; clear n1)
    all_goals go_ret
    all_goals exact ⟨rfl, HW.out.drawn (by repeat (first | exact Drawn0.refl _ | apply Drawn0.step))⟩
end Go.Proofs.Ytogdooclldoomaa.F
