-- Cut for this claim by a program (wip/prune.py) out of the texts that its bench laid or wrote
import Derived.Test.YtjphoempoinedaaAliasP
namespace Go.Proofs.Ytjphoempoinedaa.N
open Go Go.RowKit Go.Proofs.Ytjphoempoinedaa.F Go.Proofs.YtjphoempoinedaaW.PrintWords Go.Proofs.YtjphoempoinedaaW.PrintLast Go.Proofs.YtjphoempoinedaaW.PrintMore Go.Proofs.Ytjphoempoinedaa.Digs
set_option linter.unusedSimpArgs false
set_option linter.unusedVariables false
theorem sum_small (X y : Nat) (hX : X < 1208925819614629174706176) (hy : y < 18446744073709551616) :
    Ev (fun k => wide_Sum.f k ((X / 18446744073709551616 : Nat) : Int) ((X % 18446744073709551616 : Nat) : Int) 0 (y : Int)) ((((X + y) / 18446744073709551616 : Nat) : Int), (((X + y) % 18446744073709551616 : Nat) : Int), true) := by
  have h := sum_nat (X / 18446744073709551616) (X % 18446744073709551616) 0 y (by omega) (by omega) (by decide) hy (X + y) (by omega)
  rw [if_pos (by omega)] at h
  exact h
theorem len_small {X : Nat} (hX : X < 1208925819614629174706176) : (digs X).length ≤ 5 := (digs_len_le X 5).2 (by rw [show (65536 : Nat) ^ 5 = 1208925819614629174706176 from by decide]; exact hX)
theorem cnt_succ (T : Nat) (c o : Nat → Nat) (i : Int) (j : Nat) : cnt T c o i (j + 1) = cnt T c o i j + (if (j : Int) = i then c j else 0) + (if (o j : Int) = i then T - c j else 0) := rfl
theorem wrap_sub {T c : Nat} (h : c ≤ T) (hT : T < 18446744073709551616) : IntKind.u64.wrap ((T : Int) - (c : Int)) = ((T - c : Nat) : Int) := by
  rw [u64w (by omega) (by omega)]; omega
theorem count_l0 (T : Nat) (l : List S107) (c o : Nat → Nat) (hC : Cols T l c o) (hT : T < 18446744073709551616) (hl : l.length ≤ 300) (i : Int) (d : Nat) : ∀ j : Nat, l.length - j = d → j ≤ l.length →
    Ev (fun k => alias_Count.l0 k i l (l.length : Int) (j : Int) (T : Int) l ((cnt T c o i j / 18446744073709551616 : Nat) : Int) ((cnt T c o i j % 18446744073709551616 : Nat) : Int))
      (((cnt T c o i l.length / 18446744073709551616 : Nat) : Int), ((cnt T c o i l.length % 18446744073709551616 : Nat) : Int), true) := by
  induction d with
  | zero =>
    intro j hd hj
    obtain rfl : j = l.length := by omega
    refine Ev.step (f := fun _ => some _) (fun k => ?_) (Ev.now _)
    simp only [alias_Count.l0]
    rw [if_neg (by omega)]
  | succ d ih =>
    intro j hd hj
    have hlt : j < l.length := by omega
    have c1 : (j : Int) < (l.length : Int) := by omega
    have w1 : wrap64 ((j : Int) + 1) = ((j + 1 : Nat) : Int) := by rw [i64w (by omega) (by omega)]; omega
    obtain ⟨er, hcT, ho⟩ := hC j hlt
    have e0 : (rd_T107 l (j : Int)).f0 = (c j : Int) := by rw [er]
    have e1 : (rd_T107 l (j : Int)).f1 = (o j : Int) := by rw [er]
    have hw := wrap_sub hcT hT
    have hb := cnt_word (i := i) (o := o) hT hl (fun q hq => (hC q hq).2.1) (j := j) (by omega)
    have hn := ih (j + 1) (by omega) (by omega)
    rw [cnt_succ] at hn
    generalize cnt T c o i j = X at hn hb ⊢
    have s1 := sum_small X (c j) (by omega) (by omega)
    by_cases h1 : (j : Int) = i
    · rw [if_pos h1] at hn
      by_cases h2 : (o j : Int) = i
      · rw [if_pos h2] at hn
        have s2 := sum_small (X + c j) (T - c j) (by omega) (by omega)
        refine Ev.step (f := fun k => (wide_Sum.f k ((X / 18446744073709551616 : Nat) : Int) ((X % 18446744073709551616 : Nat) : Int) 0 (c j : Int)).bind fun bt107 => ((wide_Sum.f k bt107.1 bt107.2.1 0 ((T - c j : Nat) : Int)).bind fun bt110 => alias_Count.l0 k i l (l.length : Int) ((j + 1 : Nat) : Int) (T : Int) l bt110.1 bt110.2.1)) (fun k => ?_) (Ev.bind s1 (Ev.bind s2 hn))
        simp only [alias_Count.l0]
        rw [if_pos c1, if_pos (Int.natCast_nonneg _), if_pos c1, if_pos h1, e0, e1, w1]
        simp only [if_pos h2, hw]
      · rw [if_neg h2] at hn; simp only [Nat.add_zero] at hn
        refine Ev.step (f := fun k => (wide_Sum.f k ((X / 18446744073709551616 : Nat) : Int) ((X % 18446744073709551616 : Nat) : Int) 0 (c j : Int)).bind fun bt107 => (alias_Count.l0 k i l (l.length : Int) ((j + 1 : Nat) : Int) (T : Int) l bt107.1 bt107.2.1)) (fun k => ?_) (Ev.bind s1 hn)
        simp only [alias_Count.l0]
        rw [if_pos c1, if_pos (Int.natCast_nonneg _), if_pos c1, if_pos h1, e0, e1, w1]
        simp only [if_neg h2]
    · rw [if_neg h1] at hn; simp only [Nat.add_zero] at hn
      by_cases h2 : (o j : Int) = i
      · rw [if_pos h2] at hn
        have s2 := sum_small X (T - c j) (by omega) (by omega)
        refine Ev.step (f := fun k => (wide_Sum.f k ((X / 18446744073709551616 : Nat) : Int) ((X % 18446744073709551616 : Nat) : Int) 0 ((T - c j : Nat) : Int)).bind fun bt110 => (alias_Count.l0 k i l (l.length : Int) ((j + 1 : Nat) : Int) (T : Int) l bt110.1 bt110.2.1)) (fun k => ?_) (Ev.bind s2 hn)
        simp only [alias_Count.l0]
        rw [if_pos c1, if_pos (Int.natCast_nonneg _), if_pos c1, if_neg h1, e0, e1, if_pos h2, hw, w1]
      · rw [if_neg h2] at hn; simp only [Nat.add_zero] at hn
        refine Ev.step (fun k => ?_) hn
        simp only [alias_Count.l0]
        rw [if_pos c1, if_pos (Int.natCast_nonneg _), if_pos c1, if_neg h1, e1, if_neg h2, w1]
theorem count_ev (T : Nat) (l : List S107) (c o : Nat → Nat) (hC : Cols T l c o) (hT : T < 18446744073709551616) (hl : l.length ≤ 300) (hR : rightB T l = true) (i : Int) :
    Ev (fun k => alias_Count.f k (T : Int) l i) (((cnt T c o i l.length / 18446744073709551616 : Nat) : Int), ((cnt T c o i l.length % 18446744073709551616 : Nat) : Int), true) := by
  unfold alias_Count.f
  rw [right_eq, hR]
  refine Ev.congr (fun k => by rw [Option.bind_some, if_pos rfl]) ?_
  have h := count_l0 T l c o hC hT hl i _ 0 rfl (Nat.zero_le _)
  rw [show cnt T c o i 0 = 0 from rfl, Nat.zero_div, Nat.zero_mod] at h
  exact h
theorem rcount_l0 (T : Nat) (l : List S107) (c o : Nat → Nat) (hC : Cols T l c o) (hT : T < 18446744073709551616) (hl : l.length ≤ 300) (i : Int) (d : Nat) : ∀ j : Nat, l.length - j = d → j ≤ l.length →
    Ev (fun k => tombolaref12_Count.l0 k (T : Int) (cols l) i (j : Int) (digs (cnt T c o i j))) (digs (cnt T c o i l.length)) := by
  induction d with
  | zero =>
    intro j hd hj
    obtain rfl : j = l.length := by omega
    refine Ev.step (f := fun _ => some _) (fun k => ?_) (Ev.now _)
    simp only [tombolaref12_Count.l0]
    rw [if_neg (by rw [cols_length]; omega)]
  | succ d ih =>
    intro j hd hj
    have hlt : j < l.length := by omega
    have c1 : (j : Int) < ((cols l).length : Int) := by rw [cols_length]; omega
    have w1 : wrap64 ((j : Int) + 1) = ((j + 1 : Nat) : Int) := by rw [i64w (by omega) (by omega)]; omega
    obtain ⟨er, hcT, ho⟩ := hC j hlt
    have e0 : (rd_T66 (cols l) (j : Int)).f0 = (c j : Int) := by rw [rd_cols, er]
    have e1 : (rd_T66 (cols l) (j : Int)).f1 = (o j : Int) := by rw [rd_cols, er]
    have hw := wrap_sub hcT hT
    have hb := cnt_word (i := i) (o := o) hT hl (fun q hq => (hC q hq).2.1) (j := j) (by omega)
    have hn := ih (j + 1) (by omega) (by omega)
    rw [cnt_succ] at hn
    generalize cnt T c o i j = X at hn hb ⊢
    have second : ∀ Y : Nat, Y < 36893488147419103232000 → Ev (fun k => tombolaref12_Count.l0 k (T : Int) (cols l) i ((j + 1 : Nat) : Int) (digs (Y + (if (o j : Int) = i then T - c j else 0)))) (digs (cnt T c o i l.length)) →
        Ev (fun k => tombolaref12_Count.j1 k (T : Int) (cols l) i (j : Int) (digs Y)) (digs (cnt T c o i l.length)) := by
      intro Y hY hn
      by_cases h2 : (o j : Int) = i
      · rw [if_pos h2] at hn
        have l1 := len_small (X := Y) (by omega)
        have l2 := u64_len (n := T - c j) (by omega)
        refine Ev.step (f := fun k => (tombolaref01_Of.f k ((T - c j : Nat) : Int)).bind fun t112 => ((tombolaref01_Add.f k (digs Y) t112).bind fun t115 => (tombolaref12_Count.l0 k (T : Int) (cols l) i ((j + 1 : Nat) : Int) t115))) (fun k => ?_) (Ev.bind (of_ev (T - c j) (by omega)) (Ev.bind (add_ev Y (T - c j) (by omega) (by omega)) hn))
        simp only [tombolaref12_Count.j1]
        rw [if_pos (Int.natCast_nonneg _), if_pos c1, e0, e1, if_pos h2, hw, w1]
      · rw [if_neg h2] at hn; simp only [Nat.add_zero] at hn
        refine Ev.step (fun k => ?_) hn
        simp only [tombolaref12_Count.j1]
        rw [if_pos (Int.natCast_nonneg _), if_pos c1, e1, if_neg h2, w1]
    by_cases h1 : (j : Int) = i
    · rw [if_pos h1] at hn
      have l1 := len_small (X := X) (by omega)
      have l2 := u64_len (n := c j) (by omega)
      refine Ev.step (f := fun k => (tombolaref01_Of.f k (c j : Int)).bind fun t104 => ((tombolaref01_Add.f k (digs X) t104).bind fun t107 => (tombolaref12_Count.j1 k (T : Int) (cols l) i (j : Int) t107))) (fun k => ?_) (Ev.bind (of_ev (c j) (by omega)) (Ev.bind (add_ev X (c j) (by omega) (by omega)) (second (X + c j) (by omega) hn)))
      simp only [tombolaref12_Count.l0]
      rw [if_pos c1, if_pos h1, if_pos (Int.natCast_nonneg _), e0]
    · rw [if_neg h1] at hn; simp only [Nat.add_zero] at hn
      refine Ev.step (fun k => ?_) (second X (by omega) hn)
      simp only [tombolaref12_Count.l0]
      rw [if_pos c1, if_neg h1]
theorem rcount_ev (T : Nat) (l : List S107) (c o : Nat → Nat) (hC : Cols T l c o) (hT : T < 18446744073709551616) (hl : l.length ≤ 300) (i : Int) :
    Ev (fun k => tombolaref12_Count.f k (T : Int) (cols l) i) (digs (cnt T c o i l.length)) := rcount_l0 T l c o hC hT hl i _ 0 rfl (Nat.zero_le _)
theorem alive12_ev : Ev (fun k => tombolalaw12_alive.f k) true := Ev.of (fun k => tombolalaw12_alive.mono k) (k := 12) (by kernel_rfl)
end Go.Proofs.Ytjphoempoinedaa.N
