-- Cut for this claim by a program (wip/prune.py) out of the texts that its bench laid or wrote
import Derived.Test.YtjphoempoinedaaWideS
import Derived.Test.YtjphoempoinedaaRefSpan
import Derived.Test.YtjphoempoinedaaNat2
import Derived.Test.YtjphoempoinedaaFeq
import Derived.Test.YtjphoempoinedaaFAliasA
import Derived.Test.YtjphoempoinedaaFLaw12columns
import Derived.Test.YtjphoempoinedaaFLaw12alive
import Derived.Test.YtjphoempoinedaaFRef12A
section
namespace Go.Proofs.Ytjphoempoinedaa.N
open Go Go.RowKit Go.Proofs.Ytjphoempoinedaa.F Go.Proofs.YtjphoempoinedaaW.PrintWords Go.Proofs.YtjphoempoinedaaW.PrintLast Go.Proofs.YtjphoempoinedaaW.PrintMore Go.Proofs.Ytjphoempoinedaa.Digs
set_option linter.unusedSimpArgs false
set_option linter.unusedVariables false
def cols (l : List S107) : List S66 := l.map fun x => ⟨x.f0, x.f1⟩
theorem cols_length (l : List S107) : (cols l).length = l.length := by simp [cols]
theorem rd_cols (l : List S107) (i : Int) : rd_T66 (cols l) i = ⟨(rd_T107 l i).f0, (rd_T107 l i).f1⟩ := by
  unfold rd_T66 rd_T107 cols
  rw [List.getD_eq_getElem?_getD, List.getD_eq_getElem?_getD, List.getElem?_map]
  cases l[i.toNat]? <;> rfl
theorem columns_l0 (T : Int) (l : List S107) (hl : l.length < 8796093022208) (d : Nat) : ∀ j : Nat, l.length - j = d → j ≤ l.length →
    Ev (fun k => tombolalaw12_columns.l0 k ((cols l).take j) (j : Int) T l) (cols l) := by
  induction d with
  | zero =>
    intro j hd hj
    refine Ev.step (f := fun _ => some (cols l)) (fun k => ?_) (Ev.now _)
    simp only [tombolalaw12_columns.l0]
    rw [if_neg (by omega), List.take_of_length_le (by rw [cols_length]; omega)]
  | succ d ih =>
    intro j hd hj
    have hlt : j < (cols l).length := by rw [cols_length]; omega
    refine Ev.step (fun k => ?_) (ih (j + 1) (by omega) (by omega))
    have e : (cols l).take (j + 1) = (cols l).take j ++ [⟨(rd_T107 l (j : Int)).f0, (rd_T107 l (j : Int)).f1⟩] := by
      rw [List.take_succ_eq_append_getElem hlt, ← rd_cols]
      unfold rd_T66
      rw [Int.toNat_natCast, List.getD_eq_getElem?_getD, List.getElem?_eq_getElem hlt]; rfl
    have w1 : wrap64 ((j : Int) + 1) = ((j + 1 : Nat) : Int) := by rw [i64w (by omega) (by omega)]; omega
    simp only [tombolalaw12_columns.l0]
    rw [if_pos (by omega), if_pos (Int.natCast_nonneg _), if_pos (by rw [List.length_take, cols_length]; omega), w1, e]
theorem columns_ev (T : Int) (l : List S107) (hl : l.length < 8796093022208) : Ev (fun k => tombolalaw12_columns.f k T l) (cols l) :=
  columns_l0 T l hl _ 0 rfl (Nat.zero_le _)
def rightB (T : Int) (l : List S107) : Bool := decide (0 < T) && decide (0 < (l.length : Int)) && !(l.any (alias_right.bad T l.length))
theorem firstAt_any {α : Type} (p : α → Bool) (l : List α) : ∀ i : Int, 0 ≤ i → decide (0 ≤ firstAt p l i) = l.any p := by
  induction l with
  | nil => intro i hi; rfl
  | cons x l ih =>
    intro i hi
    unfold firstAt
    by_cases h : p x = true
    · rw [if_pos h, List.any_cons, h, Bool.true_or]; exact decide_eq_true hi
    · rw [if_neg h, ih (i + 1) (by omega), List.any_cons, Bool.eq_false_iff.mpr h, Bool.false_or]
theorem right_eq (T : Int) (l : List S107) : alias_right.f T l = some (rightB T l) := by
  unfold alias_right.f rightB
  rw [firstAt_any _ _ 0 (Int.le_refl _)]
theorem rd_at (l : List S107) (j : Nat) (h : j < l.length) : rd_T107 l (j : Int) = l[j] := by
  unfold rd_T107
  rw [Int.toNat_natCast, List.getD_eq_getElem?_getD, List.getElem?_eq_getElem h]; rfl
theorem rright_l0 (T : Int) (l : List S107) (hl : l.length < 8796093022208) (d : Nat) : ∀ j : Nat, l.length - j = d → j ≤ l.length →
    Ev (fun k => tombolaref12_Right.l0 k T (cols l) (j : Int)) (decide (0 < T) && decide (0 < (l.length : Int)) && !((l.drop j).any (alias_right.bad T l.length))) := by
  induction d with
  | zero =>
    intro j hd hj
    refine Ev.step (f := fun _ => some (decide (0 < T) && decide (0 < (l.length : Int)) && !((l.drop j).any (alias_right.bad T l.length)))) (fun k => ?_) (Ev.now _)
    rw [List.drop_eq_nil_of_le (by omega), List.any_nil]
    simp only [tombolaref12_Right.l0]
    rw [if_neg (by rw [cols_length]; omega)]
    by_cases h : T > 0
    · rw [if_pos h, cols_length, decide_eq_true (show 0 < T from h), Bool.true_and, Bool.not_false, Bool.and_true]
    · rw [if_neg h, decide_eq_false (show ¬ 0 < T from h)]; rfl
  | succ d ih =>
    intro j hd hj
    have hlt : j < l.length := by omega
    have w1 : wrap64 ((j : Int) + 1) = ((j + 1 : Nat) : Int) := by rw [i64w (by omega) (by omega)]; omega
    have hn := ih (j + 1) (by omega) (by omega)
    rw [List.drop_eq_getElem_cons hlt, List.any_cons]
    have hb : alias_right.bad T l.length l[j] = (decide (T < (rd_T107 l (j : Int)).f0) || decide ((rd_T107 l (j : Int)).f1 < 0) || decide ((l.length : Int) ≤ (rd_T107 l (j : Int)).f1)) := by
      rw [rd_at l j hlt]; rfl
    rw [hb]
    by_cases c1 : T < (rd_T107 l (j : Int)).f0
    · refine Ev.step (f := fun _ => some false) (fun k => ?_) (by rw [decide_eq_true c1]; simp only [Bool.true_or, Bool.not_true, Bool.and_false]; exact Ev.now _)
      simp only [tombolaref12_Right.l0]
      rw [if_pos (by rw [cols_length]; omega), if_pos (Int.natCast_nonneg _), rd_cols, if_pos c1]
    · by_cases c2 : (rd_T107 l (j : Int)).f1 < 0
      · refine Ev.step (f := fun _ => some false) (fun k => ?_) (by rw [decide_eq_true c2]; simp only [Bool.true_or, Bool.or_true, Bool.not_true, Bool.and_false]; exact Ev.now _)
        simp only [tombolaref12_Right.l0]
        rw [if_pos (by rw [cols_length]; omega), if_pos (Int.natCast_nonneg _), rd_cols, if_neg c1, if_pos c2]
      · by_cases c3 : (l.length : Int) ≤ (rd_T107 l (j : Int)).f1
        · refine Ev.step (f := fun _ => some false) (fun k => ?_) (by rw [decide_eq_true c3]; simp only [Bool.true_or, Bool.or_true, Bool.not_true, Bool.and_false]; exact Ev.now _)
          simp only [tombolaref12_Right.l0]
          rw [if_pos (by rw [cols_length]; omega), if_pos (Int.natCast_nonneg _), rd_cols, if_neg c1, if_neg c2, cols_length, if_pos c3]
        · rw [decide_eq_false c1, decide_eq_false c2, decide_eq_false c3, Bool.false_or, Bool.false_or, Bool.false_or]
          refine Ev.step (fun k => ?_) hn
          simp only [tombolaref12_Right.l0]
          rw [if_pos (by rw [cols_length]; omega), if_pos (Int.natCast_nonneg _), rd_cols, if_neg c1, if_neg c2, cols_length, if_neg c3, w1]
theorem rright_ev (T : Int) (l : List S107) (hl : l.length < 8796093022208) : Ev (fun k => tombolaref12_Right.f k T (cols l)) (rightB T l) := by
  have h := rright_l0 T l hl _ 0 rfl (Nat.zero_le _)
  rw [List.drop_zero] at h
  exact h
def Cols (T : Nat) (l : List S107) (c o : Nat → Nat) : Prop := ∀ j : Nat, j < l.length → rd_T107 l (j : Int) = ⟨(c j : Int), (o j : Int)⟩ ∧ c j ≤ T ∧ o j < l.length
def cnt (T : Nat) (c o : Nat → Nat) (i : Int) : Nat → Nat
  | 0 => 0
  | j + 1 => cnt T c o i j + (if (j : Int) = i then c j else 0) + (if (o j : Int) = i then T - c j else 0)
theorem cnt_le (T : Nat) (c o : Nat → Nat) (i : Int) (n : Nat) (h : ∀ j, j < n → c j ≤ T) : ∀ j, j ≤ n → cnt T c o i j ≤ j * (2 * T) := by
  intro j
  induction j with
  | zero => intro _; exact Nat.zero_le _
  | succ j ih =>
    intro hj
    have h1 := ih (by omega)
    have h2 := h j (by omega)
    have e : (j + 1) * (2 * T) = j * (2 * T) + 2 * T := by rw [Nat.succ_mul]
    unfold cnt
    rw [e]
    split <;> split <;> omega
theorem cnt_word {T : Nat} {c o : Nat → Nat} {i : Int} {n : Nat} (hT : T < 18446744073709551616) (hn : n ≤ 300) (h : ∀ j, j < n → c j ≤ T) {j : Nat} (hj : j ≤ n) : cnt T c o i j < 11068046444225730969600 := by
  have h1 := cnt_le T c o i n h j hj
  have h2 : j * (2 * T) ≤ 300 * (2 * T) := Nat.mul_le_mul_right _ (by omega)
  omega
end Go.Proofs.Ytjphoempoinedaa.N
end
section
namespace Go.Proofs.Ytjphoempoinedaa.N
open Go Go.RowKit Go.Proofs.Ytjphoempoinedaa.F Go.Proofs.YtjphoempoinedaaW.PrintWords Go.Proofs.YtjphoempoinedaaW.PrintLast Go.Proofs.YtjphoempoinedaaW.PrintMore Go.Proofs.Ytjphoempoinedaa.Digs
set_option linter.unusedSimpArgs false
set_option linter.unusedVariables false
theorem sum_small (X y : Nat) (hX : X < 1208925819614629174706176) (hy : y < 18446744073709551616) :
    Ev (fun k => wide_Sum.f k ((X / 18446744073709551616 : Nat) : Int) ((X % 18446744073709551616 : Nat) : Int) 0 (y : Int)) ((((X + y) / 18446744073709551616 : Nat) : Int), (((X + y) % 18446744073709551616 : Nat) : Int), true) := by
  have h := sum_nat (X / 18446744073709551616) (X % 18446744073709551616) 0 y (by omega) (by omega) (by decide) hy (X + y) (by omega)
  rw [if_pos (by omega)] at h
  exact h
theorem len_small {X : Nat} (hX : X < 1208925819614629174706176) : (digs X).length ≤ 5 := (digs_len_le X 5).2 (by rw [show (65536 : Nat) ^ 5 = 1208925819614629174706176 from by decide]; exact hX)
theorem cnt_succ (T : Nat) (c o : Nat → Nat) (i : Int) (j : Nat) : cnt T c o i (j + 1) = cnt T c o i j + (if (j : Int) = i then c j else 0) + (if (o j : Int) = i then T - c j else 0) := rfl
theorem wrap_sub {T c : Nat} (h : c ≤ T) (hT : T < 18446744073709551616) : IntKind.u64.wrap ((T : Int) - (c : Int)) = ((T - c : Nat) : Int) := by
  rw [u64w (by omega) (by omega)]; omega
theorem count_l0 (T : Nat) (l : List S107) (c o : Nat → Nat) (hC : Cols T l c o) (hT : T < 18446744073709551616) (hl : l.length ≤ 300) (i : Int) (d : Nat) : ∀ j : Nat, l.length - j = d → j ≤ l.length →
    Ev (fun k => alias_Count.l0 k i l (l.length : Int) (j : Int) (T : Int) l ((cnt T c o i j / 18446744073709551616 : Nat) : Int) ((cnt T c o i j % 18446744073709551616 : Nat) : Int))
      (((cnt T c o i l.length / 18446744073709551616 : Nat) : Int), ((cnt T c o i l.length % 18446744073709551616 : Nat) : Int), true) := by
  induction d with
  | zero =>
    intro j hd hj
    obtain rfl : j = l.length := by omega
    refine Ev.step (f := fun _ => some _) (fun k => ?_) (Ev.now _)
    simp only [alias_Count.l0]
    rw [if_neg (by omega)]
  | succ d ih =>
    intro j hd hj
    have hlt : j < l.length := by omega
    have c1 : (j : Int) < (l.length : Int) := by omega
    have w1 : wrap64 ((j : Int) + 1) = ((j + 1 : Nat) : Int) := by rw [i64w (by omega) (by omega)]; omega
    obtain ⟨er, hcT, ho⟩ := hC j hlt
    have e0 : (rd_T107 l (j : Int)).f0 = (c j : Int) := by rw [er]
    have e1 : (rd_T107 l (j : Int)).f1 = (o j : Int) := by rw [er]
    have hw := wrap_sub hcT hT
    have hb := cnt_word (i := i) (o := o) hT hl (fun q hq => (hC q hq).2.1) (j := j) (by omega)
    have hn := ih (j + 1) (by omega) (by omega)
    rw [cnt_succ] at hn
    generalize cnt T c o i j = X at hn hb ⊢
    have s1 := sum_small X (c j) (by omega) (by omega)
    by_cases h1 : (j : Int) = i
    · rw [if_pos h1] at hn
      by_cases h2 : (o j : Int) = i
      · rw [if_pos h2] at hn
        have s2 := sum_small (X + c j) (T - c j) (by omega) (by omega)
        refine Ev.step (f := fun k => (wide_Sum.f k ((X / 18446744073709551616 : Nat) : Int) ((X % 18446744073709551616 : Nat) : Int) 0 (c j : Int)).bind fun bt107 => ((wide_Sum.f k bt107.1 bt107.2.1 0 ((T - c j : Nat) : Int)).bind fun bt110 => alias_Count.l0 k i l (l.length : Int) ((j + 1 : Nat) : Int) (T : Int) l bt110.1 bt110.2.1)) (fun k => ?_) (Ev.bind s1 (Ev.bind s2 hn))
        simp only [alias_Count.l0]
        rw [if_pos c1, if_pos (Int.natCast_nonneg _), if_pos c1, if_pos h1, e0, e1, w1]
        simp only [if_pos h2, hw]
      · rw [if_neg h2] at hn; simp only [Nat.add_zero] at hn
        refine Ev.step (f := fun k => (wide_Sum.f k ((X / 18446744073709551616 : Nat) : Int) ((X % 18446744073709551616 : Nat) : Int) 0 (c j : Int)).bind fun bt107 => (alias_Count.l0 k i l (l.length : Int) ((j + 1 : Nat) : Int) (T : Int) l bt107.1 bt107.2.1)) (fun k => ?_) (Ev.bind s1 hn)
        simp only [alias_Count.l0]
        rw [if_pos c1, if_pos (Int.natCast_nonneg _), if_pos c1, if_pos h1, e0, e1, w1]
        simp only [if_neg h2]
    · rw [if_neg h1] at hn; simp only [Nat.add_zero] at hn
      by_cases h2 : (o j : Int) = i
      · rw [if_pos h2] at hn
        have s2 := sum_small X (T - c j) (by omega) (by omega)
        refine Ev.step (f := fun k => (wide_Sum.f k ((X / 18446744073709551616 : Nat) : Int) ((X % 18446744073709551616 : Nat) : Int) 0 ((T - c j : Nat) : Int)).bind fun bt110 => (alias_Count.l0 k i l (l.length : Int) ((j + 1 : Nat) : Int) (T : Int) l bt110.1 bt110.2.1)) (fun k => ?_) (Ev.bind s2 hn)
        simp only [alias_Count.l0]
        rw [if_pos c1, if_pos (Int.natCast_nonneg _), if_pos c1, if_neg h1, e0, e1, if_pos h2, hw, w1]
      · rw [if_neg h2] at hn; simp only [Nat.add_zero] at hn
        refine Ev.step (fun k => ?_) hn
        simp only [alias_Count.l0]
        rw [if_pos c1, if_pos (Int.natCast_nonneg _), if_pos c1, if_neg h1, e1, if_neg h2, w1]
theorem count_ev (T : Nat) (l : List S107) (c o : Nat → Nat) (hC : Cols T l c o) (hT : T < 18446744073709551616) (hl : l.length ≤ 300) (hR : rightB T l = true) (i : Int) :
    Ev (fun k => alias_Count.f k (T : Int) l i) (((cnt T c o i l.length / 18446744073709551616 : Nat) : Int), ((cnt T c o i l.length % 18446744073709551616 : Nat) : Int), true) := by
  unfold alias_Count.f
  rw [right_eq, hR]
  refine Ev.congr (fun k => by rw [Option.bind_some, if_pos rfl]) ?_
  have h := count_l0 T l c o hC hT hl i _ 0 rfl (Nat.zero_le _)
  rw [show cnt T c o i 0 = 0 from rfl, Nat.zero_div, Nat.zero_mod] at h
  exact h
theorem rcount_l0 (T : Nat) (l : List S107) (c o : Nat → Nat) (hC : Cols T l c o) (hT : T < 18446744073709551616) (hl : l.length ≤ 300) (i : Int) (d : Nat) : ∀ j : Nat, l.length - j = d → j ≤ l.length →
    Ev (fun k => tombolaref12_Count.l0 k (T : Int) (cols l) i (j : Int) (digs (cnt T c o i j))) (digs (cnt T c o i l.length)) := by
  induction d with
  | zero =>
    intro j hd hj
    obtain rfl : j = l.length := by omega
    refine Ev.step (f := fun _ => some _) (fun k => ?_) (Ev.now _)
    simp only [tombolaref12_Count.l0]
    rw [if_neg (by rw [cols_length]; omega)]
  | succ d ih =>
    intro j hd hj
    have hlt : j < l.length := by omega
    have c1 : (j : Int) < ((cols l).length : Int) := by rw [cols_length]; omega
    have w1 : wrap64 ((j : Int) + 1) = ((j + 1 : Nat) : Int) := by rw [i64w (by omega) (by omega)]; omega
    obtain ⟨er, hcT, ho⟩ := hC j hlt
    have e0 : (rd_T66 (cols l) (j : Int)).f0 = (c j : Int) := by rw [rd_cols, er]
    have e1 : (rd_T66 (cols l) (j : Int)).f1 = (o j : Int) := by rw [rd_cols, er]
    have hw := wrap_sub hcT hT
    have hb := cnt_word (i := i) (o := o) hT hl (fun q hq => (hC q hq).2.1) (j := j) (by omega)
    have hn := ih (j + 1) (by omega) (by omega)
    rw [cnt_succ] at hn
    generalize cnt T c o i j = X at hn hb ⊢
    have second : ∀ Y : Nat, Y < 36893488147419103232000 → Ev (fun k => tombolaref12_Count.l0 k (T : Int) (cols l) i ((j + 1 : Nat) : Int) (digs (Y + (if (o j : Int) = i then T - c j else 0)))) (digs (cnt T c o i l.length)) →
        Ev (fun k => tombolaref12_Count.j1 k (T : Int) (cols l) i (j : Int) (digs Y)) (digs (cnt T c o i l.length)) := by
      intro Y hY hn
      by_cases h2 : (o j : Int) = i
      · rw [if_pos h2] at hn
        have l1 := len_small (X := Y) (by omega)
        have l2 := u64_len (n := T - c j) (by omega)
        refine Ev.step (f := fun k => (tombolaref01_Of.f k ((T - c j : Nat) : Int)).bind fun t112 => ((tombolaref01_Add.f k (digs Y) t112).bind fun t115 => (tombolaref12_Count.l0 k (T : Int) (cols l) i ((j + 1 : Nat) : Int) t115))) (fun k => ?_) (Ev.bind (of_ev (T - c j) (by omega)) (Ev.bind (add_ev Y (T - c j) (by omega) (by omega)) hn))
        simp only [tombolaref12_Count.j1]
        rw [if_pos (Int.natCast_nonneg _), if_pos c1, e0, e1, if_pos h2, hw, w1]
      · rw [if_neg h2] at hn; simp only [Nat.add_zero] at hn
        refine Ev.step (fun k => ?_) hn
        simp only [tombolaref12_Count.j1]
        rw [if_pos (Int.natCast_nonneg _), if_pos c1, e1, if_neg h2, w1]
    by_cases h1 : (j : Int) = i
    · rw [if_pos h1] at hn
      have l1 := len_small (X := X) (by omega)
      have l2 := u64_len (n := c j) (by omega)
      refine Ev.step (f := fun k => (tombolaref01_Of.f k (c j : Int)).bind fun t104 => ((tombolaref01_Add.f k (digs X) t104).bind fun t107 => (tombolaref12_Count.j1 k (T : Int) (cols l) i (j : Int) t107))) (fun k => ?_) (Ev.bind (of_ev (c j) (by omega)) (Ev.bind (add_ev X (c j) (by omega) (by omega)) (second (X + c j) (by omega) hn)))
      simp only [tombolaref12_Count.l0]
      rw [if_pos c1, if_pos h1, if_pos (Int.natCast_nonneg _), e0]
    · rw [if_neg h1] at hn; simp only [Nat.add_zero] at hn
      refine Ev.step (fun k => ?_) (second X (by omega) hn)
      simp only [tombolaref12_Count.l0]
      rw [if_pos c1, if_neg h1]
theorem rcount_ev (T : Nat) (l : List S107) (c o : Nat → Nat) (hC : Cols T l c o) (hT : T < 18446744073709551616) (hl : l.length ≤ 300) (i : Int) :
    Ev (fun k => tombolaref12_Count.f k (T : Int) (cols l) i) (digs (cnt T c o i l.length)) := rcount_l0 T l c o hC hT hl i _ 0 rfl (Nat.zero_le _)
theorem alive12_ev : Ev (fun k => tombolalaw12_alive.f k) true := Ev.of (fun k => tombolalaw12_alive.mono k) (k := 12) (by kernel_rfl)
end Go.Proofs.Ytjphoempoinedaa.N
end
