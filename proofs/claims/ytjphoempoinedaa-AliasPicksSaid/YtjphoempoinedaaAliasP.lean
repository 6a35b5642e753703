-- Cut for this claim by a program (wip/prune.py) out of the texts that its bench laid or wrote
import Derived.Test.YtjphoempoinedaaWideS
import Derived.Test.YtjphoempoinedaaRefSpan
import Derived.Test.YtjphoempoinedaaNat2
import Derived.Test.YtjphoempoinedaaCmp
import Derived.Test.YtjphoempoinedaaList
import Derived.Test.YtjphoempoinedaaFAliasC
import Derived.Test.YtjphoempoinedaaFAliasA
import Derived.Test.YtjphoempoinedaaFLaw12columns
import Derived.Test.YtjphoempoinedaaFLaw12alive
import Derived.Test.YtjphoempoinedaaFRef12A
namespace Go.Proofs.Ytjphoempoinedaa.N
open Go Go.RowKit Go.Proofs.Ytjphoempoinedaa.F Go.Proofs.YtjphoempoinedaaW.PrintWords Go.Proofs.YtjphoempoinedaaW.PrintLast Go.Proofs.YtjphoempoinedaaW.PrintMore Go.Proofs.Ytjphoempoinedaa.Digs
set_option linter.unusedSimpArgs false
set_option linter.unusedVariables false
def cols (l : List S107) : List S66 := l.map fun x => ⟨x.f0, x.f1⟩
theorem cols_length (l : List S107) : (cols l).length = l.length := by simp [cols]
theorem rd_cols (l : List S107) (i : Int) : rd_T66 (cols l) i = ⟨(rd_T107 l i).f0, (rd_T107 l i).f1⟩ := by
  unfold rd_T66 rd_T107 cols
  rw [List.getD_eq_getElem?_getD, List.getD_eq_getElem?_getD, List.getElem?_map]
  cases l[i.toNat]? <;> rfl
theorem columns_l0 (T : Int) (l : List S107) (hl : l.length < 8796093022208) (d : Nat) : ∀ j : Nat, l.length - j = d → j ≤ l.length →
    Ev (fun k => tombolalaw12_columns.l0 k ((cols l).take j) (j : Int) T l) (cols l) := by
  induction d with
  | zero =>
    intro j hd hj
    refine Ev.step (f := fun _ => some (cols l)) (fun k => ?_) (Ev.now _)
    simp only [tombolalaw12_columns.l0]
    rw [if_neg (by omega), List.take_of_length_le (by rw [cols_length]; omega)]
  | succ d ih =>
    intro j hd hj
    have hlt : j < (cols l).length := by rw [cols_length]; omega
    refine Ev.step (fun k => ?_) (ih (j + 1) (by omega) (by omega))
    have e : (cols l).take (j + 1) = (cols l).take j ++ [⟨(rd_T107 l (j : Int)).f0, (rd_T107 l (j : Int)).f1⟩] := by
      rw [List.take_succ_eq_append_getElem hlt, ← rd_cols]
      unfold rd_T66
      rw [Int.toNat_natCast, List.getD_eq_getElem?_getD, List.getElem?_eq_getElem hlt]; rfl
    have w1 : wrap64 ((j : Int) + 1) = ((j + 1 : Nat) : Int) := by rw [i64w (by omega) (by omega)]; omega
    simp only [tombolalaw12_columns.l0]
    rw [if_pos (by omega), if_pos (Int.natCast_nonneg _), if_pos (by rw [List.length_take, cols_length]; omega), w1, e]
theorem columns_ev (T : Int) (l : List S107) (hl : l.length < 8796093022208) : Ev (fun k => tombolalaw12_columns.f k T l) (cols l) :=
  columns_l0 T l hl _ 0 rfl (Nat.zero_le _)
def rightB (T : Int) (l : List S107) : Bool := decide (0 < T) && decide (0 < (l.length : Int)) && !(l.any (alias_right.bad T l.length))
theorem firstAt_any {α : Type} (p : α → Bool) (l : List α) : ∀ i : Int, 0 ≤ i → decide (0 ≤ firstAt p l i) = l.any p := by
  induction l with
  | nil => intro i hi; rfl
  | cons x l ih =>
    intro i hi
    unfold firstAt
    by_cases h : p x = true
    · rw [if_pos h, List.any_cons, h, Bool.true_or]; exact decide_eq_true hi
    · rw [if_neg h, ih (i + 1) (by omega), List.any_cons, Bool.eq_false_iff.mpr h, Bool.false_or]
theorem right_eq (T : Int) (l : List S107) : alias_right.f T l = some (rightB T l) := by
  unfold alias_right.f rightB
  rw [firstAt_any _ _ 0 (Int.le_refl _)]
theorem rd_at (l : List S107) (j : Nat) (h : j < l.length) : rd_T107 l (j : Int) = l[j] := by
  unfold rd_T107
  rw [Int.toNat_natCast, List.getD_eq_getElem?_getD, List.getElem?_eq_getElem h]; rfl
theorem rright_l0 (T : Int) (l : List S107) (hl : l.length < 8796093022208) (d : Nat) : ∀ j : Nat, l.length - j = d → j ≤ l.length →
    Ev (fun k => tombolaref12_Right.l0 k T (cols l) (j : Int)) (decide (0 < T) && decide (0 < (l.length : Int)) && !((l.drop j).any (alias_right.bad T l.length))) := by
  induction d with
  | zero =>
    intro j hd hj
    refine Ev.step (f := fun _ => some (decide (0 < T) && decide (0 < (l.length : Int)) && !((l.drop j).any (alias_right.bad T l.length)))) (fun k => ?_) (Ev.now _)
    rw [List.drop_eq_nil_of_le (by omega), List.any_nil]
    simp only [tombolaref12_Right.l0]
    rw [if_neg (by rw [cols_length]; omega)]
    by_cases h : T > 0
    · rw [if_pos h, cols_length, decide_eq_true (show 0 < T from h), Bool.true_and, Bool.not_false, Bool.and_true]
    · rw [if_neg h, decide_eq_false (show ¬ 0 < T from h)]; rfl
  | succ d ih =>
    intro j hd hj
    have hlt : j < l.length := by omega
    have w1 : wrap64 ((j : Int) + 1) = ((j + 1 : Nat) : Int) := by rw [i64w (by omega) (by omega)]; omega
    have hn := ih (j + 1) (by omega) (by omega)
    rw [List.drop_eq_getElem_cons hlt, List.any_cons]
    have hb : alias_right.bad T l.length l[j] = (decide (T < (rd_T107 l (j : Int)).f0) || decide ((rd_T107 l (j : Int)).f1 < 0) || decide ((l.length : Int) ≤ (rd_T107 l (j : Int)).f1)) := by
      rw [rd_at l j hlt]; rfl
    rw [hb]
    by_cases c1 : T < (rd_T107 l (j : Int)).f0
    · refine Ev.step (f := fun _ => some false) (fun k => ?_) (by rw [decide_eq_true c1]; simp only [Bool.true_or, Bool.not_true, Bool.and_false]; exact Ev.now _)
      simp only [tombolaref12_Right.l0]
      rw [if_pos (by rw [cols_length]; omega), if_pos (Int.natCast_nonneg _), rd_cols, if_pos c1]
    · by_cases c2 : (rd_T107 l (j : Int)).f1 < 0
      · refine Ev.step (f := fun _ => some false) (fun k => ?_) (by rw [decide_eq_true c2]; simp only [Bool.true_or, Bool.or_true, Bool.not_true, Bool.and_false]; exact Ev.now _)
        simp only [tombolaref12_Right.l0]
        rw [if_pos (by rw [cols_length]; omega), if_pos (Int.natCast_nonneg _), rd_cols, if_neg c1, if_pos c2]
      · by_cases c3 : (l.length : Int) ≤ (rd_T107 l (j : Int)).f1
        · refine Ev.step (f := fun _ => some false) (fun k => ?_) (by rw [decide_eq_true c3]; simp only [Bool.true_or, Bool.or_true, Bool.not_true, Bool.and_false]; exact Ev.now _)
          simp only [tombolaref12_Right.l0]
          rw [if_pos (by rw [cols_length]; omega), if_pos (Int.natCast_nonneg _), rd_cols, if_neg c1, if_neg c2, cols_length, if_pos c3]
        · rw [decide_eq_false c1, decide_eq_false c2, decide_eq_false c3, Bool.false_or, Bool.false_or, Bool.false_or]
          refine Ev.step (fun k => ?_) hn
          simp only [tombolaref12_Right.l0]
          rw [if_pos (by rw [cols_length]; omega), if_pos (Int.natCast_nonneg _), rd_cols, if_neg c1, if_neg c2, cols_length, if_neg c3, w1]
theorem rright_ev (T : Int) (l : List S107) (hl : l.length < 8796093022208) : Ev (fun k => tombolaref12_Right.f k T (cols l)) (rightB T l) := by
  have h := rright_l0 T l hl _ 0 rfl (Nat.zero_le _)
  rw [List.drop_zero] at h
  exact h
def Cols (T : Nat) (l : List S107) (c o : Nat → Nat) : Prop := ∀ j : Nat, j < l.length → rd_T107 l (j : Int) = ⟨(c j : Int), (o j : Int)⟩ ∧ c j ≤ T ∧ o j < l.length
def cnt (T : Nat) (c o : Nat → Nat) (i : Int) : Nat → Nat
  | 0 => 0
  | j + 1 => cnt T c o i j + (if (j : Int) = i then c j else 0) + (if (o j : Int) = i then T - c j else 0)
theorem cnt_le (T : Nat) (c o : Nat → Nat) (i : Int) (n : Nat) (h : ∀ j, j < n → c j ≤ T) : ∀ j, j ≤ n → cnt T c o i j ≤ j * (2 * T) := by
  intro j
  induction j with
  | zero => intro _; exact Nat.zero_le _
  | succ j ih =>
    intro hj
    have h1 := ih (by omega)
    have h2 := h j (by omega)
    have e : (j + 1) * (2 * T) = j * (2 * T) + 2 * T := by rw [Nat.succ_mul]
    unfold cnt
    rw [e]
    split <;> split <;> omega
theorem cnt_word {T : Nat} {c o : Nat → Nat} {i : Int} {n : Nat} (hT : T < 18446744073709551616) (hn : n ≤ 300) (h : ∀ j, j < n → c j ≤ T) {j : Nat} (hj : j ≤ n) : cnt T c o i j < 11068046444225730969600 := by
  have h1 := cnt_le T c o i n h j hj
  have h2 : j * (2 * T) ≤ 300 * (2 * T) := Nat.mul_le_mul_right _ (by omega)
  omega
end Go.Proofs.Ytjphoempoinedaa.N
