import Derived.Test.YtjphoempoinedaaFSpanA
import Derived.Test.YtjphoempoinedaaWideM
namespace Go.Proofs.Ytjphoempoinedaa.N
open Go Go.RowKit Go.Proofs.Ytjphoempoinedaa.F Go.Proofs.YtjphoempoinedaaW.PrintWords Go.Proofs.YtjphoempoinedaaW.PrintLast Go.Proofs.YtjphoempoinedaaW.PrintMore Go.Proofs.Ytjphoempoinedaa.Digs
set_option linter.unusedSimpArgs false
set_option linter.unusedVariables false

/-- Words as Go has them. -/
def ofN (m : List Nat) : List Int := m.map fun (n : Nat) => (n : Int)
def Words (m : List Nat) : Prop := ∀ n, n ∈ m → n < 18446744073709551616
theorem ofN_length (m : List Nat) : (ofN m).length = m.length := by simp [ofN]
theorem ofN_of (l : List Int) (h : ∀ x, x ∈ l → (Lit.int .u64 x).wf = true) : ∃ m, l = ofN m ∧ Words m := by
  refine ⟨l.map Int.toNat, ?_, ?_⟩
  · unfold ofN
    rw [List.map_map]
    conv => lhs; rw [← List.map_id l]
    refine List.map_congr_left fun x hx => ?_
    have h2 : 0 ≤ x ∧ x ≤ 18446744073709551615 := by simpa [Lit.wf, IntKind.min, IntKind.max, IntKind.signed, IntKind.bits] using h x hx
    simp; omega
  · intro n hn
    obtain ⟨x, hx, rfl⟩ := List.mem_map.1 hn
    have h2 : 0 ≤ x ∧ x ≤ 18446744073709551615 := by simpa [Lit.wf, IntKind.min, IntKind.max, IntKind.signed, IntKind.bits] using h x hx
    omega
theorem rd_ofN (m : List Nat) (j : Nat) : rd (ofN m) (j : Int) = ((m.getD j 0 : Nat) : Int) := by
  simp only [rd, Int.toNat_natCast, ofN, List.getD_eq_getElem?_getD, List.getElem?_map]
  cases m[j]? <;> rfl
theorem words_get {m : List Nat} (h : Words m) (j : Nat) : m.getD j 0 < 18446744073709551616 := by
  rw [List.getD_eq_getElem?_getD]
  cases hj : m[j]? with
  | none => simp
  | some x => exact h x (List.mem_of_getElem? hj)
theorem ofN_set (m : List Nat) (j n : Nat) : (ofN m).set j (n : Int) = ofN (m.set j n) := by
  unfold ofN; rw [List.map_set]
/-- What is ahead of a place. -/
def pre (m : List Nat) (j : Nat) : Nat := (m.take j).sum
theorem pre_zero (m : List Nat) : pre m 0 = 0 := by simp [pre]
theorem pre_succ {m : List Nat} {j : Nat} (h : j < m.length) : pre m (j + 1) = pre m j + m.getD j 0 := by
  unfold pre
  rw [List.take_succ_eq_append_getElem h, List.sum_append]
  simp [List.getD_eq_getElem?_getD, List.getElem?_eq_getElem h]
theorem pre_all (m : List Nat) : pre m m.length = m.sum := by simp [pre]
theorem pre_mono {m : List Nat} {i j : Nat} (h : i ≤ j) (hj : j ≤ m.length) : pre m i ≤ pre m j := by
  induction j with
  | zero => obtain rfl : i = 0 := by omega
            exact Nat.le_refl _
  | succ j ih =>
    rcases Nat.lt_or_ge i (j + 1) with h1 | h1
    · have := ih (by omega) (by omega)
      rw [pre_succ (by omega)]; omega
    · obtain rfl : i = j + 1 := by omega
      exact Nat.le_refl _
theorem pre_le_sum (m : List Nat) {j : Nat} (h : j ≤ m.length) : pre m j ≤ m.sum := by
  rw [← pre_all]; exact pre_mono h (Nat.le_refl _)
/-- Whose a number is. -/
def pickN : List Nat → Nat → Nat → Option Nat
  | [], _, _ => none
  | w :: m, r, i => if r < w then some i else pickN m (r - w) (i + 1)
theorem pick_some {m : List Nat} : ∀ {r i j : Nat}, pickN m r i = some j → i ≤ j ∧ j - i < m.length ∧ pre m (j - i) ≤ r ∧ r < pre m (j - i) + m.getD (j - i) 0 := by
  induction m with
  | nil => intro r i j h; simp [pickN] at h
  | cons w m ih =>
    intro r i j h
    simp only [pickN] at h
    by_cases hr : r < w
    · rw [if_pos hr] at h
      obtain rfl := Option.some.inj h
      simp [pre, hr]
    · rw [if_neg hr] at h
      obtain ⟨h1, h2, h3, h4⟩ := ih h
      have e : j - i = (j - (i + 1)) + 1 := by omega
      rw [e]
      refine ⟨by omega, by simp only [List.length_cons]; omega, ?_, ?_⟩
      · unfold pre at h3 ⊢
        rw [List.take_succ_cons, List.sum_cons]; omega
      · unfold pre at h4 ⊢
        rw [List.take_succ_cons, List.sum_cons, List.getD_cons_succ]; omega
theorem pick_lt {m : List Nat} : ∀ {r i : Nat}, r < m.sum → ∃ j, pickN m r i = some j := by
  induction m with
  | nil => intro r i h; simp at h
  | cons w m ih =>
    intro r i h
    simp only [pickN]
    by_cases hr : r < w
    · exact ⟨i, by rw [if_pos hr]⟩
    · rw [if_neg hr]
      exact ih (by rw [List.sum_cons] at h; omega)
theorem pick_ge {m : List Nat} : ∀ {r i : Nat}, m.sum ≤ r → pickN m r i = none := by
  induction m with
  | nil => intro r i _; rfl
  | cons w m ih =>
    intro r i h
    rw [List.sum_cons] at h
    simp only [pickN]
    rw [if_neg (by omega)]
    exact ih (by omega)
/-- One place alone has a number. -/
theorem pick_one {m : List Nat} {r j : Nat} (hj : j < m.length) (h1 : pre m j ≤ r) (h2 : r < pre m j + m.getD j 0) : pickN m r 0 = some j := by
  have hs : r < m.sum := by have := pre_le_sum m (j := j + 1) hj; rw [pre_succ hj] at this; omega
  obtain ⟨q, hq⟩ := pick_lt (i := 0) hs
  obtain ⟨_, b, c, d⟩ := pick_some hq
  rw [Nat.sub_zero] at b c d
  rcases Nat.lt_trichotomy q j with h | h | h
  · have := pre_mono (m := m) (i := q + 1) (j := j) h (by omega); rw [pre_succ b] at this; omega
  · rw [hq, h]
  · have := pre_mono (m := m) (i := j + 1) (j := q) h (by omega); rw [pre_succ hj] at this; omega
def pickI (m : List Nat) (r : Nat) : Int := match pickN m r 0 with | some j => (j : Int) | none => -1

/-- The spans of words, from a number on. -/
def spansOf : Nat → List Nat → List (S127)
  | _, [] => []
  | a, w :: m => ⟨(a : Int), (w : Int)⟩ :: spansOf (a + w) m
theorem spansOf_length : ∀ (m : List Nat) (a : Nat), (spansOf a m).length = m.length
  | [], _ => rfl
  | w :: m, a => by simp [spansOf, spansOf_length m]
theorem spansOf_get : ∀ (m : List Nat) (a j : Nat), j < m.length → (spansOf a m).getD j z127 = ⟨((a + pre m j : Nat) : Int), ((m.getD j 0 : Nat) : Int)⟩
  | [], _, _, h => by simp at h
  | w :: m, a, 0, _ => by simp [spansOf, pre]
  | w :: m, a, j + 1, h => by
    have := spansOf_get m (a + w) j (by simpa using h)
    simp only [spansOf, List.getD_cons_succ, this]
    unfold pre
    rw [List.take_succ_cons, List.sum_cons, Nat.add_assoc]
theorem rd_spans (m : List Nat) (j : Nat) (h : j < m.length) : rd_T127 (spansOf 0 m) (j : Int) = ⟨((pre m j : Nat) : Int), ((m.getD j 0 : Nat) : Int)⟩ := by
  unfold rd_T127
  rw [Int.toNat_natCast, spansOf_get m 0 j h, Nat.zero_add]
/-- A round of the spans. -/
theorem spans_l0 (m : List Nat) (hm : Words m) (hl : m.length < 8796093022208) (d : Nat) : ∀ (j : Nat), m.length - j = d → j ≤ m.length → pre m j < 18446744073709551616 →
    Ev (fun k => span_Spans.l0 k ((spansOf 0 m).take j) (pre m j) (ofN m) m.length j) (if m.sum < 18446744073709551616 then (spansOf 0 m, true) else ([], false)) := by
  induction d with
  | zero =>
    intro j hd hj hp
    obtain rfl : j = m.length := by omega
    rw [pre_all] at hp ⊢
    rw [if_pos hp]
    refine ⟨1, fun k hk => ?_⟩
    obtain ⟨k, rfl⟩ : ∃ m, k = m + 1 := ⟨k - 1, by omega⟩
    simp only [span_Spans.l0]
    rw [if_neg (by omega), List.take_of_length_le (by rw [spansOf_length]; exact Nat.le_refl _)]
  | succ d ih =>
    intro j hd hj hp
    have hjl : j < m.length := by omega
    have hw := words_get hm j
    have hadd := add_nat (pre m j) (m.getD j 0) hp hw
    have e1 : (ofN m).length = m.length := ofN_length m
    have c1 : (j : Int) < (m.length : Int) := by omega
    have c3 : ((spansOf 0 m).take j).length < 8796093022208 := by rw [List.length_take]; omega
    have w1 : Aside0 (wrap64 ((j : Int) + 1) = ((j + 1 : Nat) : Int)) := ⟨by rw [i64w (by omega) (by omega)]; omega⟩
    have hs := pre_succ hjl
    by_cases hf : pre m j + m.getD j 0 < 18446744073709551616
    · rw [if_pos hf] at hadd
      have hn := ih (j + 1) (by omega) hjl (by omega)
      refine Ev.step (fun k => ?_) hn
      have et : (spansOf 0 m).take (j + 1) = (spansOf 0 m).take j ++ [⟨((pre m j : Nat) : Int), ((m.getD j 0 : Nat) : Int)⟩] := by
        have hlt : j < (spansOf 0 m).length := by rw [spansOf_length]; exact hjl
        rw [List.take_succ_eq_append_getElem hlt]
        have := spansOf_get m 0 j hjl
        rw [List.getD_eq_getElem?_getD, List.getElem?_eq_getElem hlt, Nat.zero_add] at this
        rw [show (spansOf 0 m)[j] = _ from this]
      simp only [span_Spans.l0]
      rw [if_pos c1, if_pos (Int.natCast_nonneg _), e1, if_pos c1, if_pos c3, rd_ofN, hadd]
      simp only [Option.bind_some, if_true]
      rw [w1.out, et, hs]
    · rw [if_neg hf] at hadd
      have hbig : ¬ m.sum < 18446744073709551616 := by have := pre_le_sum m (j := j + 1) hjl; omega
      rw [if_neg hbig]
      refine ⟨1, fun k hk => ?_⟩
      obtain ⟨k, rfl⟩ : ∃ m, k = m + 1 := ⟨k - 1, by omega⟩
      simp only [span_Spans.l0]
      rw [if_pos c1, if_pos (Int.natCast_nonneg _), e1, if_pos c1, if_pos c3, rd_ofN, hadd]
      simp only [Option.bind_some, Bool.false_eq_true, if_false]
theorem spans_ev (m : List Nat) (hm : Words m) (hl : m.length < 8796093022208) : Ev (fun k => span_Spans.f k (ofN m)) (if m.sum < 18446744073709551616 then (spansOf 0 m, true) else ([], false)) := by
  have h := spans_l0 m hm hl _ 0 rfl (Nat.zero_le _) (by rw [pre_zero]; decide)
  rw [pre_zero, List.take_zero] at h
  refine Ev.congr (fun k => ?_) h
  unfold span_Spans.f
  rw [ofN_length]; rfl
theorem total_ev (m : List Nat) (hm : Words m) (hl : m.length < 8796093022208) : Ev (fun k => span_Total.f k (ofN m)) (if m.sum < 18446744073709551616 then ((m.sum : Int), true) else (0, false)) := by
  have h := spans_ev m hm hl
  unfold span_Total.f
  by_cases hs : m.sum < 18446744073709551616
  · rw [if_pos hs] at h ⊢
    refine Ev.bindN h ?_
    rw [if_pos rfl, spansOf_length]
    by_cases h0 : m.length = 0
    · have : m = [] := List.length_eq_zero_iff.1 h0
      subst this
      rfl
    · have e : wrap64 ((m.length : Int) - 1) = ((m.length - 1 : Nat) : Int) := by rw [i64w (by omega) (by omega)]; omega
      have hp := pre_succ (m := m) (j := m.length - 1) (by omega)
      have e2 : m.length - 1 + 1 = m.length := by clear e; omega
      rw [e2, pre_all] at hp
      rw [if_neg (by clear e; omega), e, if_pos (Int.natCast_nonneg _), if_pos (by clear e; omega), rd_spans m _ (by clear e; omega)]
      clear e
      have e3 : IntKind.u64.wrap (((pre m (m.length - 1) : Nat) : Int) + ((m.getD (m.length - 1) 0 : Nat) : Int)) = (m.sum : Int) := by
        rw [u64w (by omega) (by omega)]; omega
      rw [e3]
  · rw [if_neg hs] at h ⊢
    refine Ev.bindN h ?_
    rw [if_neg (by decide)]
theorem has_span (a w r : Nat) (ha : a < 18446744073709551616) (hr : r < 18446744073709551616) : span_Pick.has ⟨(a : Int), (w : Int)⟩ (r : Int) = (decide (a ≤ r) && decide (r < a + w)) := by
  unfold span_Pick.has
  by_cases h : a ≤ r
  · have e : IntKind.u64.wrap ((r : Int) - a) = (r : Int) - a := u64w (by omega) (by omega)
    rw [e]
    clear e
    rw [decide_eq_true h, decide_eq_true (show (r : Int) ≥ (a : Int) by omega)]
    simp only [Bool.true_and]
    exact decide_eq_decide.2 (by omega)
  · rw [decide_eq_false h, decide_eq_false (show ¬ (r : Int) ≥ (a : Int) by omega)]
    rfl
theorem first_spans : ∀ (m : List Nat) (a r : Nat) (i : Nat), a ≤ r → r < 18446744073709551616 → a + m.sum < 18446744073709551616 →
    firstAt (fun x => span_Pick.has x (r : Int)) (spansOf a m) (i : Int) = match pickN m (r - a) i with | some j => (j : Int) | none => -1
  | [], a, r, i, _, _, _ => rfl
  | w :: m, a, r, i, h, hr, hs => by
    rw [List.sum_cons] at hs
    simp only [spansOf, firstAt, pickN]
    rw [has_span a w r (by omega) hr, decide_eq_true h, Bool.true_and]
    by_cases hw : r - a < w
    · rw [if_pos hw, if_pos (decide_eq_true (by omega))]
    · rw [if_neg hw, if_neg (by rw [decide_eq_false (by omega)]; decide)]
      have := first_spans m (a + w) r (i + 1) (by omega) hr (by omega)
      have e : r - (a + w) = r - a - w := by omega
      rw [e] at this
      rw [← this]; rfl
theorem pick_ev (m : List Nat) (hm : Words m) (hl : m.length < 8796093022208) (r : Nat) (hr : r < 18446744073709551616) :
    Ev (fun k => span_Pick.f k (ofN m) r) (if m.sum < 18446744073709551616 ∧ r < m.sum then (pickI m r, true) else (-1, false)) := by
  have h := spans_ev m hm hl
  unfold span_Pick.f
  by_cases hs : m.sum < 18446744073709551616
  · rw [if_pos hs] at h
    refine Ev.bindN h ?_
    have hf := first_spans m 0 r 0 (Nat.zero_le _) hr (by omega)
    rw [Nat.sub_zero] at hf
    have e : span_Pick.at (spansOf 0 m) r = pickI m r := hf
    rw [e]
    by_cases hlt : r < m.sum
    · rw [if_pos ⟨hs, hlt⟩]
      obtain ⟨j, hj⟩ := pick_lt (i := 0) hlt
      have e2 : pickI m r = (j : Int) := by unfold pickI; rw [hj]
      rw [e2, decide_eq_true (Int.natCast_nonneg _)]
    · rw [if_neg (fun h => hlt h.2)]
      have e2 : pickI m r = -1 := by unfold pickI; rw [pick_ge (by omega)]
      rw [e2]; rfl
  · rw [if_neg hs] at h
    rw [if_neg (fun h => hs h.1)]
    exact Ev.bindN h rfl
end Go.Proofs.Ytjphoempoinedaa.N
