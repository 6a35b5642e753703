/- The total of any words, their spans, and whose span has any number, are what the document says of them. Conditions: none beyond the row's own. -/
import Derived.Test.YtogdooclldoomaaPureSpan
import Derived.Test.YtogdooclldoomaaFLaw09SpanTells
namespace Go.Proofs.Ytogdooclldoomaa.Pure
open Go Go.RowKit Go.Proofs.Ytogdooclldoomaa.F Go.Proofs.YtogdooclldoomaaW.PrintWords Go.Proofs.YtogdooclldoomaaW.PrintLast Go.Proofs.Ytogdooclldoomaa.Digs Go.Proofs.Ytogdooclldoomaa.N
set_option linter.unusedSimpArgs false
set_option linter.unusedVariables false

theorem tells_l0 (m : List Nat) (hm : Words m) (hl : m.length ≤ 200) (r q : Nat) (hr : r < 18446744073709551616) (hs : m.sum < 18446744073709551616) (hq : pickN m r 0 = some q) (d : Nat) : ∀ (j : Nat), m.length - j = d → j ≤ m.length →
    Ev (fun k => tombolalaw09_SpanTells.l0 k (ofN m) r (spansOf 0 m) q (pre m j) j) true := by
  obtain ⟨_, q2, q3, q4⟩ := pick_some hq
  rw [Nat.sub_zero] at q2 q3 q4
  induction d with
  | zero =>
    intro j hd hj
    obtain rfl : j = m.length := by omega
    refine Ev.step (fun k => ?_) (Ev.bindN alive09_ev rfl)
    simp only [tombolalaw09_SpanTells.l0]
    rw [if_neg (by rw [ofN_length]; omega)]
  | succ d ih =>
    intro j hd hj
    have hjl : j < m.length := by omega
    have hn := ih (j + 1) (by omega) hjl
    have hps := pre_succ hjl
    have hle := pre_le_sum m (j := j + 1) hjl
    have hw := words_get hm j
    have w1 : Aside0 (wrap64 ((j : Int) + 1) = ((j + 1 : Nat) : Int)) := ⟨by rw [i64w (by omega) (by omega)]; omega⟩
    have w2 : Aside0 (IntKind.u64.wrap (((pre m j : Nat) : Int) + ((m.getD j 0 : Nat) : Int)) = ((pre m (j + 1) : Nat) : Int)) := ⟨by rw [u64w (by omega) (by omega)]; omega⟩
    have hhas : span_Has.f ((pre m j : Nat) : Int) ((m.getD j 0 : Nat) : Int) r = some (decide (j = q)) := by
      have h1 := span_Pick.has_eq ⟨((pre m j : Nat) : Int), ((m.getD j 0 : Nat) : Int)⟩ r
      rw [has_span (pre m j) (m.getD j 0) r (by omega) hr] at h1
      have e : (decide (pre m j ≤ r) && decide (r < pre m j + m.getD j 0)) = decide (j = q) := by
        by_cases hjq : j = q
        · subst hjq
          rw [decide_eq_true q3, decide_eq_true q4, decide_eq_true rfl]; rfl
        · rw [decide_eq_false hjq]
          by_cases c1 : pre m j ≤ r
          · by_cases c2 : r < pre m j + m.getD j 0
            · have := pick_one hjl c1 c2
              rw [hq] at this
              exact absurd (Option.some.inj this).symm hjq
            · rw [decide_eq_false c2, Bool.and_false]
          · rw [decide_eq_false c1, Bool.false_and]
      rw [e] at h1
      exact h1
    refine Ev.step (fun k => ?_) hn
    simp only [tombolalaw09_SpanTells.l0]
    rw [if_pos (by rw [ofN_length]; omega), if_pos (Int.natCast_nonneg _), if_pos (by rw [spansOf_length]; omega), rd_spans m j hjl, rd_ofN]
    simp only [beq_self_eq_true, Bool.not_true, Bool.or_self, Bool.false_eq_true, if_false]
    rw [hhas]
    simp only [Option.bind_some]
    have e2 : (decide (j = q) != ((j : Int) == (q : Int))) = false := by
      by_cases hjq : j = q
      · subst hjq; simp
      · rw [decide_eq_false hjq, beq_eq_false_iff_ne.2 (by omega)]; rfl
    rw [e2, if_neg (by decide), w1.out, w2.out]
theorem ev_tells (m : List Nat) (hm : Words m) (r : Nat) (hr : r < 18446744073709551616) : Ev (fun k => tombolalaw09_SpanTells.f k (ofN m) r) true := by
  unfold tombolalaw09_SpanTells.f
  by_cases hl : m.length ≤ 200
  · refine Ev.congr (fun k => if_neg (by rw [ofN_length]; omega)) ?_
    have ht := total_ev m hm (by omega)
    have hrt := rtotal_ev m hm (by omega)
    have hsp := spans_ev m hm (by omega)
    have hp := pick_ev m hm (by omega) r hr
    have hrp := rpick_ev m hm (by omega) r hr
    by_cases hs : m.sum < 18446744073709551616
    · rw [if_pos hs] at ht hrt hsp
      refine Ev.bind ht (Ev.bind hrt (Ev.bind hsp (Ev.bind hp ?_)))
      refine Ev.congr (fun k => if_pos rfl) (Ev.congr (fun k => if_neg (by simp)) ?_)
      by_cases hlt : r < m.sum
      · rw [if_pos ⟨hs, hlt⟩]
        obtain ⟨q, hq⟩ := pick_lt (i := 0) hlt
        have eq : pickI m r = (q : Int) := by unfold pickI; rw [hq]
        have h0 := tells_l0 m hm hl r q hr hs hq _ 0 rfl (Nat.zero_le _)
        rw [pre_zero] at h0
        rw [eq] at hrp ⊢
        have h2 : Ev (fun k => tombolalaw09_SpanTells.j2 k (ofN m) r (spansOf 0 m) q (((spansOf 0 m).length : Int) != ((ofN m).length : Int))) true := by
          refine Ev.step (fun k => ?_) h0
          simp only [tombolalaw09_SpanTells.j2]
          rw [spansOf_length, ofN_length, bne_self_eq_false, if_neg (by decide)]; rfl
        have h1 : Ev (fun k => tombolalaw09_SpanTells.j1 k (ofN m) r true (spansOf 0 m) q true (decide ((r : Int) ≥ (m.sum : Int)))) true := by
          refine Ev.step (f := fun k => (tombolaref09_Pick.f k (ofN m) r).bind fun t114 => (if (q : Int) = t114 then (tombolalaw09_SpanTells.j2 k (ofN m) r (spansOf 0 m) q (((spansOf 0 m).length : Int) != ((ofN m).length : Int))) else (tombolalaw09_SpanTells.j2 k (ofN m) r (spansOf 0 m) q true))) (fun k => ?_) (Ev.bind hrp (Ev.congr (fun k => if_pos rfl) h2))
          simp only [tombolalaw09_SpanTells.j1]
          rw [decide_eq_false (by omega)]
          simp only [Bool.false_eq_true, if_false, if_true]
        refine Ev.step (fun k => ?_) h1
        simp only [tombolalaw09_SpanTells.j0, Bool.false_eq_true, if_false, if_true]
        try rfl
      · rw [if_neg (fun h => hlt h.2)]
        have h1 : Ev (fun k => tombolalaw09_SpanTells.j1 k (ofN m) r true (spansOf 0 m) (-1) false (decide ((r : Int) ≥ (m.sum : Int)))) true := by
          refine Ev.step (f := fun k => (tombolalaw09_alive.f k).bind fun t112 => some t112) (fun k => ?_) (Ev.bindN alive09_ev rfl)
          simp only [tombolalaw09_SpanTells.j1]
          rw [decide_eq_true (by omega)]; simp
        refine Ev.step (fun k => ?_) h1
        simp only [tombolalaw09_SpanTells.j0, Bool.false_eq_true, if_false, if_true]
        try rfl
    · rw [if_neg hs] at ht hrt hsp
      rw [if_neg (fun h => hs h.1)] at hp
      refine Ev.bind ht (Ev.bind hrt (Ev.bind hsp (Ev.bind hp ?_)))
      refine Ev.congr (fun k => if_pos rfl) (Ev.congr (fun k => if_neg (by simp)) ?_)
      have h1 : Ev (fun k => tombolalaw09_SpanTells.j1 k (ofN m) r false [] (-1) false true) true := by
        refine Ev.step (f := fun k => (tombolalaw09_alive.f k).bind fun t112 => some t112) (fun k => ?_) (Ev.bindN alive09_ev rfl)
        simp [tombolalaw09_SpanTells.j1]
      refine Ev.step (fun k => ?_) h1
      simp [tombolalaw09_SpanTells.j0]
  · refine Ev.congr (fun k => if_pos (by rw [ofN_length]; omega)) (Ev.bindN alive09_ev rfl)
/-- The walk. -/
theorem mainSpanTells (A0 : Option Addr) (c0 : Nat) (l0 : List Int) (a1 : Int) (w : World) (hr0 : Kd.C (Kd.int .u64) w A0 l0.length l0) (hc0 : l0.length ≤ c0) (w0 : (∀ x, x ∈ l0 → (Lit.int .u64 x).wf = true) ∧ l0.length ≤ 9223372036854775807) (_y0 : l0.length * 8 ≤ 140737488351232) (w1 : (Lit.int .u64 a1).wf = true) :
    Calls Try.prog 3 #[.slice A0 l0.length c0, .int .u64 a1] w fun e w' => e = .returned (.bool true) ∧ Below w.heap.size w w' := by
  obtain ⟨m, rfl, hm⟩ := ofN_of l0 w0.1
  have h2 : 0 ≤ a1 ∧ a1 ≤ 18446744073709551615 := by simpa [Lit.wf, IntKind.min, IntKind.max, IntKind.signed, IntKind.bits] using w1
  obtain ⟨r, rfl⟩ := Int.eq_ofNat_of_zero_le h2.1
  obtain ⟨k, h⟩ := Ev.rounds (ev_tells m hm r (by omega))
  exact (tombolalaw09_SpanTells.calls k A0 c0 (ofN m) r true ⟨rfl⟩ w hr0 hc0 h).mono fun e w' ⟨he, hb⟩ => ⟨he, hb⟩
end Go.Proofs.Ytogdooclldoomaa.Pure
