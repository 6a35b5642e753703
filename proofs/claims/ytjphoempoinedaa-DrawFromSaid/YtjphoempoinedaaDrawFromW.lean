import Derived.Test.YtjphoempoinedaaDrawFrom
import Derived.Test.YtjphoempoinedaaDrawAlive
namespace Go.Proofs.Ytjphoempoinedaa.F
open Go.RowKit Go.Proofs.YtjphoempoinedaaW.PrintWords Go.Proofs.YtjphoempoinedaaW.PrintLast Go.Proofs.YtjphoempoinedaaW.PrintMore
set_option linter.unusedSimpArgs false
set_option linter.unusedVariables false
set_option maxHeartbeats 4000000 in
set_option maxRecDepth 100000 in
theorem draw_From.nobody (t : Int) (w : World) : Calls Try.prog 22 #[.pointer none, .int .u64 t] w fun e w' => e = .returned (.tuple #[.int .u64 0, .int .i64 2]) ∧ w' = w := by
  go_enter Try.func22, Try.ntmps22
  go_wp2
  go_ret2
  all_goals exact ⟨rfl, rfl⟩
theorem cut_words {w0 : World} {l : List Int} (s : Int) (hs0 : 0 ≤ s) (hs1 : s ≤ (l.length : Int)) (A : Option Addr) (c : Nat) (hC : Kd.C (Kd.int .u64) w0 A l.length l) (hc : l.length ≤ c) :
    ∃ A' n' c', (∀ W : World, (Instr.slice 39 (.slice A l.length c) (some (.int .i64 s)) none none).run Try.prog W = .ok (.slice A' n' c') W) ∧ n' = (l.drop s.toNat).length ∧ Kd.C (Kd.int .u64) w0 A' (l.drop s.toNat).length (l.drop s.toNat) ∧ (l.drop s.toNat).length ≤ c' := by
  obtain ⟨i0, hi0, _, hsz, _⟩ := info_parts info22
  have h1 := cut_from (P := Try.prog) 39 22 .i64 Try.underlying39 hi0 1 hsz A l.length c s hs0 hs1
  have h2 := Kd.C_drop (m := s.toNat) hC (by omega) hc
  have e : (l.drop s.toNat).length = l.length - s.toNat := List.length_drop
  refine ⟨_, _, c - s.toNat, fun W => ?_, e.symm, h2, by omega⟩
  rw [h1 W]
  rfl
set_option maxHeartbeats 8000000 in
set_option maxRecDepth 100000 in
theorem tombolalaw08_DrawFrom.calls (A0 : Option Addr) (c0 : Nat) (l : List Int) (i t : Int) (w : World) (hr0 : Kd.C (Kd.int .u64) w A0 l.length l) (hc0 : l.length ≤ c0) (hw0 : N.WdsL l) (hi : -9223372036854775808 ≤ i ∧ i ≤ 9223372036854775807) (ht : 0 ≤ t ∧ t < 18446744073709551616) :
    Calls Try.prog 5 #[.slice A0 l.length c0, .int .i64 i, .int .u64 t] w fun e w' => e = .returned (.bool true) ∧ Below w.heap.size w w' := by
  have HR := Aside0.mk hr0
  have HC := Aside0.mk hc0
  have HW := Aside0.mk hw0
  have HT := Aside0.mk ht
  clear hr0 hc0 hw0 ht hi
  by_cases g1 : (l.length : Int) > 200
  · have b1 : decide ((200 : Int) < (l.length : Int)) = true := decide_eq_true g1
    clear g1
    go_enter Try.func5, Try.ntmps5
    go_wp2_with (go_at_call 18; refine (tombolalaw08_alive.own _).mono ?_; rintro e9 w9 ⟨rfl, hb⟩; have HA := Aside0.mk hb; clear hb)
    go_ret
    exact ⟨rfl, HA.out⟩
  have b1 : decide ((200 : Int) < (l.length : Int)) = false := decide_eq_false g1
  by_cases g2 : i < 0
  · have b2 : decide (i < 0) = true := decide_eq_true g2
    clear g1 g2
    go_enter Try.func5, Try.ntmps5
    go_wp2_with (go_at_call 18; refine (tombolalaw08_alive.own _).mono ?_; rintro e9 w9 ⟨rfl, hb⟩; have HA := Aside0.mk hb; clear hb)
    go_ret
    exact ⟨rfl, HA.out⟩
  have b2 : decide (i < 0) = false := decide_eq_false g2
  by_cases g3 : (l.length : Int) < i
  · have b3 : decide ((l.length : Int) < i) = true := decide_eq_true g3
    clear g1 g2 g3
    go_enter Try.func5, Try.ntmps5
    go_wp2_with (go_at_call 18; refine (tombolalaw08_alive.own _).mono ?_; rintro e9 w9 ⟨rfl, hb⟩; have HA := Aside0.mk hb; clear hb)
    go_ret
    exact ⟨rfl, HA.out⟩
  have b3 : decide ((l.length : Int) < i) = false := decide_eq_false g3
  have HL : Aside0 (l.length ≤ 200) := ⟨by omega⟩
  have SK : Aside0 (words_Source_Seek.f l 0 i = some (0, i)) := ⟨by unfold words_Source_Seek.f; rw [if_neg (by omega), if_neg (by omega)]⟩
  obtain ⟨A', n', c', hcut, hn', hC', hc'⟩ := cut_words i (by omega) (by omega) A0 c0 HR.out HC.out
  have hf := N.from_facts t.toNat (by have := HT.out; omega) l HW.out (by omega) i.toNat (by omega)
  rw [Int.toNat_of_nonneg HT.out.1, Int.toNat_of_nonneg (show 0 ≤ i by omega)] at hf
  obtain ⟨X, hX⟩ : ∃ X, l.drop i.toNat = X := ⟨_, rfl⟩
  rw [hX] at hf hC' hc' hn'
  subst hn'
  have CX := Aside0.mk hC'
  have CXc := Aside0.mk hc'
  obtain ⟨kf, kr, n, e, a, r, m, hkf, hkr, hkl, hcase⟩ := hf
  have KF := Aside0.mk hkf
  have KR := Aside0.mk hkr
  have KL := Aside0.mk hkl
  have AT : Aside0 (words_Source_At.f l a = some (a, a)) := ⟨rfl⟩
  clear g1 g2 g3 hX hC' hc' hkf hkr hkl
  have bm : (m != m) = false := bne_self_eq_false m
  rcases hcase with ⟨h0, hn, he, ha⟩ | ⟨h0, hm, hn, he, ha⟩ | ⟨h0, hm, hn, he, ha⟩
  · have bt : (t == 0) = true := beq_iff_eq.mpr h0
    subst hn he ha
    clear h0
    go_enter Try.func5, Try.ntmps5
    go_wp2_with (first
      | (go_at_call 20; with_reducible refine (words_New.state A0 c0 l _ HR.out HC.out (by have := HL.out; omega)).mono ?_; rintro e9 w9 ⟨g, wb, rfl, hi, hb0, hb⟩; have HI := Aside0.mk hi; have HJ := Aside0.mk hb; have HB0 := Aside0.mk hb0; have hcd := Kd.C_below HR.out (hb0.trans (hb.mono hb0.size)); clear hi hb0 hb)
      | (go_at_call 21; with_reducible refine (words_Source_Seek.calls g l 0 _ 0 _ wb _ HI.out HJ.out SK.out).mono ?_; rintro e9 w9 ⟨rfl, hi, hb, hk⟩; have n1 := Aside0.mk hi; have n2 := Aside0.mk hb; clear HI HJ hi hb hk; have HI := n1; have HJ := n2; clear n1 n2)
      | (go_at_call 22; with_reducible refine (draw_From.calls kf g l _ t _ _ _ wb _ HI.out HJ.out KF.out).mono ?_; rintro e9 w9 ⟨rfl, hi, hb, hk⟩; have n1 := Aside0.mk hi; have n2 := Aside0.mk hb; clear HI HJ hi hb hk; have HI := n1; have HJ := n2; clear n1 n2)
      | (go_at_call 22; with_reducible refine (draw_From.nobody t _).mono ?_; rintro e9 w9 ⟨rfl, rfl⟩)
      | (go_at_call 23; refine (tombolaref08_From.calls kr _ _ X t _ _ _ (Kd.C_below CX.out (HB0.out.trans (HJ.out.mono HB0.out.size))) CXc.out KR.out).mono ?_; rintro e9 w9 ⟨rfl, hb⟩; have n1 := Aside0.mk (HI.out.below hb); have n2 := Aside0.mk (HJ.out.trans (hb.mono HJ.out.size)); clear HI HJ hb; have HI := n1; have HJ := n2; clear n1 n2)
      | (go_at_call 24; refine (draw_Least.calls t _ _ X _ _ (Kd.C_below CX.out (HB0.out.trans (HJ.out.mono HB0.out.size))) CXc.out KL.out).mono ?_; rintro e9 w9 ⟨rfl, hb⟩; have n1 := Aside0.mk (HI.out.below hb); have n2 := Aside0.mk (HJ.out.trans (hb.mono HJ.out.size)); clear HI HJ hb; have HI := n1; have HJ := n2; clear n1 n2)
      | (go_at_call 25; with_reducible refine (words_Source_At.calls g l _ _ _ wb _ HI.out HJ.out AT.out).mono ?_; rintro e9 w9 ⟨rfl, hi, hb, hk⟩; have n1 := Aside0.mk hi; have n2 := Aside0.mk hb; clear HI HJ hi hb hk; have HI := n1; have HJ := n2; clear n1 n2)
      | (go_at_call 18; refine (tombolalaw08_alive.own _).mono ?_; rintro e9 w9 ⟨rfl, hb⟩; have HA := Aside0.mk hb; clear hb))
    go_ret
    exact ⟨rfl, HB0.out.trans ((HJ.out.trans (HA.out.mono HJ.out.size)).mono HB0.out.size)⟩
  · have bt : (t == 0) = false := beq_eq_false_iff_ne.mpr h0
    subst hm hn he ha
    clear h0
    go_enter Try.func5, Try.ntmps5
    go_wp2_with (first
      | (go_at_call 20; with_reducible refine (words_New.state A0 c0 l _ HR.out HC.out (by have := HL.out; omega)).mono ?_; rintro e9 w9 ⟨g, wb, rfl, hi, hb0, hb⟩; have HI := Aside0.mk hi; have HJ := Aside0.mk hb; have HB0 := Aside0.mk hb0; have hcd := Kd.C_below HR.out (hb0.trans (hb.mono hb0.size)); clear hi hb0 hb)
      | (go_at_call 21; with_reducible refine (words_Source_Seek.calls g l 0 _ 0 _ wb _ HI.out HJ.out SK.out).mono ?_; rintro e9 w9 ⟨rfl, hi, hb, hk⟩; have n1 := Aside0.mk hi; have n2 := Aside0.mk hb; clear HI HJ hi hb hk; have HI := n1; have HJ := n2; clear n1 n2)
      | (go_at_call 22; with_reducible refine (draw_From.calls kf g l _ t _ _ _ wb _ HI.out HJ.out KF.out).mono ?_; rintro e9 w9 ⟨rfl, hi, hb, hk⟩; have n1 := Aside0.mk hi; have n2 := Aside0.mk hb; clear HI HJ hi hb hk; have HI := n1; have HJ := n2; clear n1 n2)
      | (go_at_call 22; with_reducible refine (draw_From.nobody t _).mono ?_; rintro e9 w9 ⟨rfl, rfl⟩)
      | (go_at_call 23; refine (tombolaref08_From.calls kr _ _ X t _ _ _ (Kd.C_below CX.out (HB0.out.trans (HJ.out.mono HB0.out.size))) CXc.out KR.out).mono ?_; rintro e9 w9 ⟨rfl, hb⟩; have n1 := Aside0.mk (HI.out.below hb); have n2 := Aside0.mk (HJ.out.trans (hb.mono HJ.out.size)); clear HI HJ hb; have HI := n1; have HJ := n2; clear n1 n2)
      | (go_at_call 24; refine (draw_Least.calls t _ _ X _ _ (Kd.C_below CX.out (HB0.out.trans (HJ.out.mono HB0.out.size))) CXc.out KL.out).mono ?_; rintro e9 w9 ⟨rfl, hb⟩; have n1 := Aside0.mk (HI.out.below hb); have n2 := Aside0.mk (HJ.out.trans (hb.mono HJ.out.size)); clear HI HJ hb; have HI := n1; have HJ := n2; clear n1 n2)
      | (go_at_call 25; with_reducible refine (words_Source_At.calls g l _ _ _ wb _ HI.out HJ.out AT.out).mono ?_; rintro e9 w9 ⟨rfl, hi, hb, hk⟩; have n1 := Aside0.mk hi; have n2 := Aside0.mk hb; clear HI HJ hi hb hk; have HI := n1; have HJ := n2; clear n1 n2)
      | (go_at_call 18; refine (tombolalaw08_alive.own _).mono ?_; rintro e9 w9 ⟨rfl, hb⟩; have HA := Aside0.mk hb; clear hb))
    go_ret
    exact ⟨rfl, HB0.out.trans ((HJ.out.trans (HA.out.mono HJ.out.size)).mono HB0.out.size)⟩
  · have bt : (t == 0) = false := beq_eq_false_iff_ne.mpr h0
    have bm0 : (m == 0) = false := beq_eq_false_iff_ne.mpr hm
    subst hn he
    clear h0 hm
    go_enter Try.func5, Try.ntmps5
    go_wp2_with (first
      | (go_at_call 20; with_reducible refine (words_New.state A0 c0 l _ HR.out HC.out (by have := HL.out; omega)).mono ?_; rintro e9 w9 ⟨g, wb, rfl, hi, hb0, hb⟩; have HI := Aside0.mk hi; have HJ := Aside0.mk hb; have HB0 := Aside0.mk hb0; have hcd := Kd.C_below HR.out (hb0.trans (hb.mono hb0.size)); clear hi hb0 hb)
      | (go_at_call 21; with_reducible refine (words_Source_Seek.calls g l 0 _ 0 _ wb _ HI.out HJ.out SK.out).mono ?_; rintro e9 w9 ⟨rfl, hi, hb, hk⟩; have n1 := Aside0.mk hi; have n2 := Aside0.mk hb; clear HI HJ hi hb hk; have HI := n1; have HJ := n2; clear n1 n2)
      | (go_at_call 22; with_reducible refine (draw_From.calls kf g l _ t _ _ _ wb _ HI.out HJ.out KF.out).mono ?_; rintro e9 w9 ⟨rfl, hi, hb, hk⟩; have n1 := Aside0.mk hi; have n2 := Aside0.mk hb; clear HI HJ hi hb hk; have HI := n1; have HJ := n2; clear n1 n2)
      | (go_at_call 22; with_reducible refine (draw_From.nobody t _).mono ?_; rintro e9 w9 ⟨rfl, rfl⟩)
      | (go_at_call 23; refine (tombolaref08_From.calls kr _ _ X t _ _ _ (Kd.C_below CX.out (HB0.out.trans (HJ.out.mono HB0.out.size))) CXc.out KR.out).mono ?_; rintro e9 w9 ⟨rfl, hb⟩; have n1 := Aside0.mk (HI.out.below hb); have n2 := Aside0.mk (HJ.out.trans (hb.mono HJ.out.size)); clear HI HJ hb; have HI := n1; have HJ := n2; clear n1 n2)
      | (go_at_call 24; refine (draw_Least.calls t _ _ X _ _ (Kd.C_below CX.out (HB0.out.trans (HJ.out.mono HB0.out.size))) CXc.out KL.out).mono ?_; rintro e9 w9 ⟨rfl, hb⟩; have n1 := Aside0.mk (HI.out.below hb); have n2 := Aside0.mk (HJ.out.trans (hb.mono HJ.out.size)); clear HI HJ hb; have HI := n1; have HJ := n2; clear n1 n2)
      | (go_at_call 25; with_reducible refine (words_Source_At.calls g l _ _ _ wb _ HI.out HJ.out AT.out).mono ?_; rintro e9 w9 ⟨rfl, hi, hb, hk⟩; have n1 := Aside0.mk hi; have n2 := Aside0.mk hb; clear HI HJ hi hb hk; have HI := n1; have HJ := n2; clear n1 n2)
      | (go_at_call 18; refine (tombolalaw08_alive.own _).mono ?_; rintro e9 w9 ⟨rfl, hb⟩; have HA := Aside0.mk hb; clear hb))
    go_ret
    exact ⟨rfl, HB0.out.trans ((HJ.out.trans (HA.out.mono HJ.out.size)).mono HB0.out.size)⟩
theorem mainDrawFrom (A0 : Option Addr) (c0 : Nat) (l0 : List Int) (a1 a2 : Int) (w : World) (hr0 : Kd.C (Kd.int .u64) w A0 l0.length l0) (hc0 : l0.length ≤ c0) (w0 : (∀ x, x ∈ l0 → (Lit.int .u64 x).wf = true) ∧ l0.length ≤ 9223372036854775807) {P : Prop} (_y0 : P) (w1 : (Lit.int .i64 a1).wf = true) (w2 : (Lit.int .u64 a2).wf = true) :
    Calls Try.prog 5 #[.slice A0 l0.length c0, .int .i64 a1, .int .u64 a2] w fun e w' => e = .returned (.bool true) ∧ Below w.heap.size w w' := by
  refine tombolalaw08_DrawFrom.calls A0 c0 l0 a1 a2 w hr0 hc0 (fun x hx => ?_) ?_ ?_
  · have h2 : 0 ≤ x ∧ x ≤ 18446744073709551615 := by simpa [Lit.wf, IntKind.min, IntKind.max, IntKind.signed, IntKind.bits] using w0.1 x hx
    omega
  · simpa [Lit.wf, IntKind.min, IntKind.max, IntKind.signed, IntKind.bits] using w1
  · have h2 : 0 ≤ a2 ∧ a2 ≤ 18446744073709551615 := by simpa [Lit.wf, IntKind.min, IntKind.max, IntKind.signed, IntKind.bits] using w2
    omega
end Go.Proofs.Ytjphoempoinedaa.F
