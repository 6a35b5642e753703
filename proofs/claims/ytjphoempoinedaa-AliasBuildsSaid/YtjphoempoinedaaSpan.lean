-- Cut for this claim by a program (wip/prune.py) out of the texts that its bench laid or wrote
import Derived.Test.YtjphoempoinedaaFSpanA
import Derived.Test.YtjphoempoinedaaWideS
namespace Go.Proofs.Ytjphoempoinedaa.N
open Go Go.RowKit Go.Proofs.Ytjphoempoinedaa.F Go.Proofs.YtjphoempoinedaaW.PrintWords Go.Proofs.YtjphoempoinedaaW.PrintLast Go.Proofs.YtjphoempoinedaaW.PrintMore Go.Proofs.Ytjphoempoinedaa.Digs
set_option linter.unusedSimpArgs false
set_option linter.unusedVariables false
def ofN (m : List Nat) : List Int := m.map fun (n : Nat) => (n : Int)
def Words (m : List Nat) : Prop := ∀ n, n ∈ m → n < 18446744073709551616
theorem ofN_length (m : List Nat) : (ofN m).length = m.length := by simp [ofN]
theorem ofN_of (l : List Int) (h : ∀ x, x ∈ l → (Lit.int .u64 x).wf = true) : ∃ m, l = ofN m ∧ Words m := by
  refine ⟨l.map Int.toNat, ?_, ?_⟩
  · unfold ofN
    rw [List.map_map]
    conv => lhs; rw [← List.map_id l]
    refine List.map_congr_left fun x hx => ?_
    have h2 : 0 ≤ x ∧ x ≤ 18446744073709551615 := by simpa [Lit.wf, IntKind.min, IntKind.max, IntKind.signed, IntKind.bits] using h x hx
    simp; omega
  · intro n hn
    obtain ⟨x, hx, rfl⟩ := List.mem_map.1 hn
    have h2 : 0 ≤ x ∧ x ≤ 18446744073709551615 := by simpa [Lit.wf, IntKind.min, IntKind.max, IntKind.signed, IntKind.bits] using h x hx
    omega
theorem rd_ofN (m : List Nat) (j : Nat) : rd (ofN m) (j : Int) = ((m.getD j 0 : Nat) : Int) := by
  simp only [rd, Int.toNat_natCast, ofN, List.getD_eq_getElem?_getD, List.getElem?_map]
  cases m[j]? <;> rfl
theorem words_get {m : List Nat} (h : Words m) (j : Nat) : m.getD j 0 < 18446744073709551616 := by
  rw [List.getD_eq_getElem?_getD]
  cases hj : m[j]? with
  | none => simp
  | some x => exact h x (List.mem_of_getElem? hj)
def pre (m : List Nat) (j : Nat) : Nat := (m.take j).sum
theorem pre_zero (m : List Nat) : pre m 0 = 0 := by simp [pre]
theorem pre_succ {m : List Nat} {j : Nat} (h : j < m.length) : pre m (j + 1) = pre m j + m.getD j 0 := by
  unfold pre
  rw [List.take_succ_eq_append_getElem h, List.sum_append]
  simp [List.getD_eq_getElem?_getD, List.getElem?_eq_getElem h]
theorem pre_all (m : List Nat) : pre m m.length = m.sum := by simp [pre]
theorem pre_mono {m : List Nat} {i j : Nat} (h : i ≤ j) (hj : j ≤ m.length) : pre m i ≤ pre m j := by
  induction j with
  | zero => obtain rfl : i = 0 := by omega
            exact Nat.le_refl _
  | succ j ih =>
    rcases Nat.lt_or_ge i (j + 1) with h1 | h1
    · have := ih (by omega) (by omega)
      rw [pre_succ (by omega)]; omega
    · obtain rfl : i = j + 1 := by omega
      exact Nat.le_refl _
theorem pre_le_sum (m : List Nat) {j : Nat} (h : j ≤ m.length) : pre m j ≤ m.sum := by
  rw [← pre_all]; exact pre_mono h (Nat.le_refl _)
def spansOf : Nat → List Nat → List (S127)
  | _, [] => []
  | a, w :: m => ⟨(a : Int), (w : Int)⟩ :: spansOf (a + w) m
theorem spansOf_length : ∀ (m : List Nat) (a : Nat), (spansOf a m).length = m.length
  | [], _ => rfl
  | w :: m, a => by simp [spansOf, spansOf_length m]
theorem spansOf_get : ∀ (m : List Nat) (a j : Nat), j < m.length → (spansOf a m).getD j z127 = ⟨((a + pre m j : Nat) : Int), ((m.getD j 0 : Nat) : Int)⟩
  | [], _, _, h => by simp at h
  | w :: m, a, 0, _ => by simp [spansOf, pre]
  | w :: m, a, j + 1, h => by
    have := spansOf_get m (a + w) j (by simpa using h)
    simp only [spansOf, List.getD_cons_succ, this]
    unfold pre
    rw [List.take_succ_cons, List.sum_cons, Nat.add_assoc]
theorem rd_spans (m : List Nat) (j : Nat) (h : j < m.length) : rd_T127 (spansOf 0 m) (j : Int) = ⟨((pre m j : Nat) : Int), ((m.getD j 0 : Nat) : Int)⟩ := by
  unfold rd_T127
  rw [Int.toNat_natCast, spansOf_get m 0 j h, Nat.zero_add]
theorem spans_l0 (m : List Nat) (hm : Words m) (hl : m.length < 8796093022208) (d : Nat) : ∀ (j : Nat), m.length - j = d → j ≤ m.length → pre m j < 18446744073709551616 →
    Ev (fun k => span_Spans.l0 k ((spansOf 0 m).take j) (pre m j) (ofN m) m.length j) (if m.sum < 18446744073709551616 then (spansOf 0 m, true) else ([], false)) := by
  induction d with
  | zero =>
    intro j hd hj hp
    obtain rfl : j = m.length := by omega
    rw [pre_all] at hp ⊢
    rw [if_pos hp]
    refine ⟨1, fun k hk => ?_⟩
    obtain ⟨k, rfl⟩ : ∃ m, k = m + 1 := ⟨k - 1, by omega⟩
    simp only [span_Spans.l0]
    rw [if_neg (by omega), List.take_of_length_le (by rw [spansOf_length]; exact Nat.le_refl _)]
  | succ d ih =>
    intro j hd hj hp
    have hjl : j < m.length := by omega
    have hw := words_get hm j
    have hadd := add_nat (pre m j) (m.getD j 0) hp hw
    have e1 : (ofN m).length = m.length := ofN_length m
    have c1 : (j : Int) < (m.length : Int) := by omega
    have c3 : ((spansOf 0 m).take j).length < 8796093022208 := by rw [List.length_take]; omega
    have w1 : Aside0 (wrap64 ((j : Int) + 1) = ((j + 1 : Nat) : Int)) := ⟨by rw [i64w (by omega) (by omega)]; omega⟩
    have hs := pre_succ hjl
    by_cases hf : pre m j + m.getD j 0 < 18446744073709551616
    · rw [if_pos hf] at hadd
      have hn := ih (j + 1) (by omega) hjl (by omega)
      refine Ev.step (fun k => ?_) hn
      have et : (spansOf 0 m).take (j + 1) = (spansOf 0 m).take j ++ [⟨((pre m j : Nat) : Int), ((m.getD j 0 : Nat) : Int)⟩] := by
        have hlt : j < (spansOf 0 m).length := by rw [spansOf_length]; exact hjl
        rw [List.take_succ_eq_append_getElem hlt]
        have := spansOf_get m 0 j hjl
        rw [List.getD_eq_getElem?_getD, List.getElem?_eq_getElem hlt, Nat.zero_add] at this
        rw [show (spansOf 0 m)[j] = _ from this]
      simp only [span_Spans.l0]
      rw [if_pos c1, if_pos (Int.natCast_nonneg _), e1, if_pos c1, if_pos c3, rd_ofN, hadd]
      simp only [Option.bind_some, if_true]
      rw [w1.out, et, hs]
    · rw [if_neg hf] at hadd
      have hbig : ¬ m.sum < 18446744073709551616 := by have := pre_le_sum m (j := j + 1) hjl; omega
      rw [if_neg hbig]
      refine ⟨1, fun k hk => ?_⟩
      obtain ⟨k, rfl⟩ : ∃ m, k = m + 1 := ⟨k - 1, by omega⟩
      simp only [span_Spans.l0]
      rw [if_pos c1, if_pos (Int.natCast_nonneg _), e1, if_pos c1, if_pos c3, rd_ofN, hadd]
      simp only [Option.bind_some, Bool.false_eq_true, if_false]
theorem spans_ev (m : List Nat) (hm : Words m) (hl : m.length < 8796093022208) : Ev (fun k => span_Spans.f k (ofN m)) (if m.sum < 18446744073709551616 then (spansOf 0 m, true) else ([], false)) := by
  have h := spans_l0 m hm hl _ 0 rfl (Nat.zero_le _) (by rw [pre_zero]; decide)
  rw [pre_zero, List.take_zero] at h
  refine Ev.congr (fun k => ?_) h
  unfold span_Spans.f
  rw [ofN_length]; rfl
theorem total_ev (m : List Nat) (hm : Words m) (hl : m.length < 8796093022208) : Ev (fun k => span_Total.f k (ofN m)) (if m.sum < 18446744073709551616 then ((m.sum : Int), true) else (0, false)) := by
  have h := spans_ev m hm hl
  unfold span_Total.f
  by_cases hs : m.sum < 18446744073709551616
  · rw [if_pos hs] at h ⊢
    refine Ev.bindN h ?_
    rw [if_pos rfl, spansOf_length]
    by_cases h0 : m.length = 0
    · have : m = [] := List.length_eq_zero_iff.1 h0
      subst this
      rfl
    · have e : wrap64 ((m.length : Int) - 1) = ((m.length - 1 : Nat) : Int) := by rw [i64w (by omega) (by omega)]; omega
      have hp := pre_succ (m := m) (j := m.length - 1) (by omega)
      have e2 : m.length - 1 + 1 = m.length := by clear e; omega
      rw [e2, pre_all] at hp
      rw [if_neg (by clear e; omega), e, if_pos (Int.natCast_nonneg _), if_pos (by clear e; omega), rd_spans m _ (by clear e; omega)]
      clear e
      have e3 : IntKind.u64.wrap (((pre m (m.length - 1) : Nat) : Int) + ((m.getD (m.length - 1) 0 : Nat) : Int)) = (m.sum : Int) := by
        rw [u64w (by omega) (by omega)]; omega
      rw [e3]
  · rw [if_neg hs] at h ⊢
    refine Ev.bindN h ?_
    rw [if_neg (by decide)]
end Go.Proofs.Ytjphoempoinedaa.N
