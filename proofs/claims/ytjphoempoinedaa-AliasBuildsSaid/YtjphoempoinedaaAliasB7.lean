-- Cut for this claim by a program (wip/prune.py) out of the texts that its bench laid or wrote
import Derived.Test.YtjphoempoinedaaAliasB5
import Derived.Test.YtjphoempoinedaaAliasC
section
namespace Go.Proofs.Ytjphoempoinedaa.N
open Go Go.RowKit Go.Proofs.Ytjphoempoinedaa.F Go.Proofs.YtjphoempoinedaaW.PrintWords Go.Proofs.YtjphoempoinedaaW.PrintLast Go.Proofs.YtjphoempoinedaaW.PrintMore Go.Proofs.Ytjphoempoinedaa.Digs
set_option linter.unusedSimpArgs false
set_option linter.unusedVariables false
theorem sumTo_pre (m : List Nat) (n : Nat) : ∀ j : Nat, j ≤ m.length → sumTo (fun j => m.getD j 0 * n) j = pre m j * n := by
  intro j
  induction j with
  | zero => intro _; rw [pre_zero, Nat.zero_mul]; rfl
  | succ j ih =>
    intro hj
    rw [pre_succ (by omega), Nat.add_mul, ← ih (by omega)]
    rfl
theorem getD_le_sum (m : List Nat) (j : Nat) (h : j < m.length) : m.getD j 0 ≤ m.sum := by
  have h1 := pre_succ h
  have h2 := pre_le_sum m (j := j + 1) h
  omega
theorem mkL_zero (n : Nat) (g : Nat → Nat) : mkL n (stg 0 g) = List.replicate n (0 : Int) := by
  apply List.ext_getElem (by rw [mkL_length, List.length_replicate])
  intro i h1 h2
  rw [List.getElem_replicate]
  unfold mkL stg
  simp
theorem mkC_zero (n : Nat) (c o : Nat → Nat) : mkC n (stg 0 c) (stg 0 o) = List.replicate n z107 := by
  apply List.ext_getElem (by rw [mkC_length, List.length_replicate])
  intro i h1 h2
  rw [List.getElem_replicate]
  unfold mkC stg
  simp
  rfl
theorem measure_ok (m : List Nat) (hm : Words m) (hn : m.length ≤ 300) (h0 : 0 < m.sum) (hs : m.sum < 18446744073709551616) (hf : m.sum * m.length < 18446744073709551616) : Ev (fun k => alias_measure.f k (ofN m)) ((m.sum : Int), 0) := by
  have ht := total_ev m hm (by omega)
  rw [if_pos hs] at ht
  unfold alias_measure.f
  refine Ev.congr (fun k => by rw [if_neg (by rw [ofN_length]; omega)]) ?_
  refine Ev.bind ht ?_
  have hmul := mul_nat m.sum m.length hs (by omega)
  rw [if_pos hf] at hmul
  refine Ev.step (f := fun _ => some ((m.sum : Int), (0 : Int))) (fun k => ?_) (Ev.now _)
  rw [if_pos rfl, ofN_length, u64w (by omega) (by omega), hmul, Option.bind_some]
  simp only [alias_measure.j0]
  rw [if_pos trivial, if_neg (by omega)]
theorem build_ev (m : List Nat) (hm : Words m) (hn : m.length ≤ 300) (h0 : 0 < m.sum) (hs : m.sum < 18446744073709551616) (hf : m.sum * m.length < 18446744073709551616) :
    ∃ c o, Ev (fun k => alias_Build.f k (ofN m)) ((m.sum : Int), mkC m.length c o, 0) ∧ Built m.sum m.length (fun j => m.getD j 0 * m.length) c o := by
  have hfit : ∀ j, j < m.length → m.getD j 0 * m.length < 18446744073709551616 := fun j hj => Nat.lt_of_le_of_lt (Nat.mul_le_mul_right _ (getD_le_sum m j hj)) hf
  have hb := binv_first m.sum m.length (fun j => m.getD j 0 * m.length) (by rw [sumTo_pre _ _ _ (Nat.le_refl _), pre_all]) hfit
  obtain ⟨c, o, hE, hB⟩ := build_l1 m.sum m.length _ hs hn _ _ _ _ _ _ rfl (by rw [lens]; exact Nat.le_refl _) hb
  refine ⟨c, o, ?_, hB⟩
  have h := build_l0 m.sum m hm hn hfit _ _ 0 rfl (Nat.zero_le _) hE
  rw [mkL_zero, mkC_zero] at h
  unfold alias_Build.f
  refine Ev.bind (measure_ok m hm hn h0 hs hf) ?_
  refine Ev.congr (fun k => ?_) h
  rw [if_pos rfl, ofN_length, if_pos (Int.natCast_nonneg _), Int.toNat_natCast, if_pos (by omega), if_pos (by omega)]
  rfl
end Go.Proofs.Ytjphoempoinedaa.N
end
section
namespace Go.Proofs.Ytjphoempoinedaa.N
open Go Go.RowKit Go.Proofs.Ytjphoempoinedaa.F Go.Proofs.YtjphoempoinedaaW.PrintWords Go.Proofs.YtjphoempoinedaaW.PrintLast Go.Proofs.YtjphoempoinedaaW.PrintMore Go.Proofs.Ytjphoempoinedaa.Digs
set_option linter.unusedSimpArgs false
set_option linter.unusedVariables false
def fairAt (T n : Nat) (c o : Nat → Nat) (m : List Nat) (j : Nat) : Bool := decide (cnt T c o (j : Int) n = m.getD j 0 * m.length)
theorem full_natA (a b : Nat) (ha : a < 18446744073709551616) (hb : b < 18446744073709551616) :
    wide_Full.f a b = some (((a * b / 18446744073709551616 : Nat) : Int), ((a * b % 18446744073709551616 : Nat) : Int)) := by
  rw [full_eq (wd a ha) (wd b hb), ← Int.natCast_mul]
  simp only [Int.natCast_ediv, Int.natCast_emod]
  rfl
theorem fair_l0 (T : Nat) (l : List S107) (c o : Nat → Nat) (hC : Cols T l c o) (hT : T < 18446744073709551616) (hl : l.length ≤ 300) (hR : rightB (T : Int) l = true) (m : List Nat) (hm : Words m) (hml : m.length ≤ 300) (d : Nat) :
    ∀ j : Nat, m.length - j = d → j ≤ m.length → Ev (fun k => alias_Fair.l0 k (ofN m) (ofN m) (m.length : Int) (j : Int) (T : Int) l) ((List.range' j d).all (fairAt T l.length c o m)) := by
  induction d with
  | zero =>
    intro j hd hj
    refine Ev.step (f := fun _ => some _) (fun k => ?_) (Ev.now _)
    simp only [alias_Fair.l0]
    rw [if_neg (by omega)]; rfl
  | succ d ih =>
    intro j hd hj
    have c1 : (j : Int) < (m.length : Int) := by omega
    have w1 : wrap64 ((j : Int) + 1) = ((j + 1 : Nat) : Int) := by rw [i64w (by omega) (by omega)]; omega
    have w2 : IntKind.u64.wrap ((m.length : Int)) = (m.length : Int) := u64w (by omega) (by omega)
    have hw := words_get hm j
    have hf := full_natA (m.getD j 0) m.length hw (by omega)
    have hc := count_ev T l c o hC hT hl hR (j : Int)
    have hn := ih (j + 1) (by omega) (by omega)
    rw [List.range'_succ, List.all_cons]
    have e : fairAt T l.length c o m j = decide (cnt T c o (j : Int) l.length = m.getD j 0 * m.length) := rfl
    rw [e]
    generalize cnt T c o (j : Int) l.length = C at hc ⊢
    generalize hV : m.getD j 0 * m.length = V at hf ⊢
    refine Ev.step (f := fun k => (alias_Count.f k (T : Int) l (j : Int)).bind fun bt106 => (if (!(bt106.1 == ((V / 18446744073709551616 : Nat) : Int)) || (!(bt106.2.1 == ((V % 18446744073709551616 : Nat) : Int)))) = true then (some false) else (alias_Fair.l0 k (ofN m) (ofN m) (m.length : Int) ((j + 1 : Nat) : Int) (T : Int) l))) (fun k => ?_) (Ev.bind hc ?_)
    · simp only [alias_Fair.l0]
      rw [if_pos c1, if_pos (Int.natCast_nonneg _), ofN_length, if_pos c1, rd_ofN, w1, w2, hf]
      rfl
    · by_cases hCV : C = V
      · subst hCV
        rw [decide_eq_true rfl, Bool.true_and]
        refine Ev.congr (fun k => ?_) hn
        rw [if_neg (by simp)]
      · rw [decide_eq_false hCV, Bool.false_and]
        refine Ev.congr (fun k => ?_) (Ev.now _)
        rw [if_pos]
        by_cases hd1 : C / 18446744073709551616 = V / 18446744073709551616
        · have hd2 : ¬ (C % 18446744073709551616 = V % 18446744073709551616) := by omega
          have : (((C % 18446744073709551616 : Nat) : Int) == ((V % 18446744073709551616 : Nat) : Int)) = false := by rw [beq_eq_false_iff_ne]; omega
          rw [this]; simp
        · have : (((C / 18446744073709551616 : Nat) : Int) == ((V / 18446744073709551616 : Nat) : Int)) = false := by rw [beq_eq_false_iff_ne]; omega
          rw [this]; simp
def fairV (T n : Nat) (c o : Nat → Nat) (m : List Nat) : Bool := (decide (m.sum < 18446744073709551616) && decide (m.sum = T) && decide (m.length = n)) && (List.range' 0 m.length).all (fairAt T n c o m)
theorem fair_j0_no (m : List Nat) (T : Int) (l : List S107) : Ev (fun k => alias_Fair.j0 k (ofN m) true T l) false := by
  refine Ev.step (f := fun _ => some _) (fun k => ?_) (Ev.now _)
  simp only [alias_Fair.j0]
  rw [if_pos trivial]
theorem fair_ev (T : Nat) (l : List S107) (c o : Nat → Nat) (hC : Cols T l c o) (hT : T < 18446744073709551616) (hl : l.length ≤ 300) (hR : rightB (T : Int) l = true) (m : List Nat) (hm : Words m) (hml : m.length ≤ 300) :
    Ev (fun k => alias_Fair.f k (T : Int) l (ofN m)) (fairV T l.length c o m) := by
  unfold alias_Fair.f
  refine Ev.bind (total_ev m hm (by omega)) ?_
  rw [right_eq, hR]
  refine Ev.congr (fun k => by rw [Option.bind_some, if_pos rfl]) ?_
  unfold fairV
  by_cases h1 : m.sum < 18446744073709551616
  · rw [if_pos h1, decide_eq_true h1, Bool.true_and]
    refine Ev.congr (fun k => by rw [if_pos rfl]) ?_
    by_cases h2 : m.sum = T
    · refine Ev.congr (fun k => by rw [if_pos (show ((m.sum : Nat) : Int) = (T : Int) by omega)]) ?_
      rw [decide_eq_true h2, Bool.true_and]
      by_cases h3 : m.length = l.length
      · rw [decide_eq_true h3, Bool.true_and]
        have eb : (((ofN m).length : Int) != (l.length : Int)) = false := by rw [ofN_length, h3]; simp
        rw [eb]
        have hf := fair_l0 T l c o hC hT hl hR m hm hml _ 0 rfl (Nat.zero_le _)
        refine Ev.step (fun k => ?_) hf
        simp only [alias_Fair.j0]
        rw [if_neg (by decide), ofN_length]
        rfl
      · rw [decide_eq_false h3, Bool.false_and]
        have eb : (((ofN m).length : Int) != (l.length : Int)) = true := by rw [ofN_length, bne_iff_ne]; omega
        rw [eb]
        exact fair_j0_no m T l
    · refine Ev.congr (fun k => by rw [if_neg (show ¬ (((m.sum : Nat) : Int) = (T : Int)) by omega)]) ?_
      rw [decide_eq_false h2, Bool.false_and, Bool.false_and]
      exact fair_j0_no m T l
  · rw [if_neg h1, decide_eq_false h1, Bool.false_and, Bool.false_and, Bool.false_and]
    refine Ev.congr (fun k => by rw [if_neg (by decide)]) ?_
    exact fair_j0_no m T l
end Go.Proofs.Ytjphoempoinedaa.N
end
section
namespace Go.Proofs.Ytjphoempoinedaa.N
open Go Go.RowKit Go.Proofs.Ytjphoempoinedaa.F Go.Proofs.YtjphoempoinedaaW.PrintWords Go.Proofs.YtjphoempoinedaaW.PrintLast Go.Proofs.YtjphoempoinedaaW.PrintMore Go.Proofs.Ytjphoempoinedaa.Digs
set_option linter.unusedSimpArgs false
set_option linter.unusedVariables false
theorem build_err (l : List Int) (v e : Int) (he : e ≠ 0) (h : Ev (fun k => alias_measure.f k l) (v, e)) : Ev (fun k => alias_Build.f k l) (0, [], e) := by
  unfold alias_Build.f
  refine Ev.bind h ?_
  refine Ev.congr (fun k => ?_) (Ev.now _)
  rw [if_neg he]
theorem measure_many (l : List Int) (h : (l.length : Int) > 4096) : Ev (fun k => alias_measure.f k l) (0, 5) := by
  refine Ev.congr (fun k => ?_) (Ev.now _)
  unfold alias_measure.f
  rw [if_pos h]
theorem measure_over (m : List Nat) (hm : Words m) (hn : m.length ≤ 300) (h : ¬ (m.sum < 18446744073709551616 ∧ m.sum * m.length < 18446744073709551616)) : Ev (fun k => alias_measure.f k (ofN m)) (0, 10) := by
  have ht := total_ev m hm (by omega)
  have hno : ∀ v : Int, Ev (fun k => alias_measure.j0 k v false) (0, 10) := fun v => by
    refine Ev.step (f := fun _ => some ((0 : Int), (10 : Int))) (fun k => ?_) (Ev.now _)
    simp only [alias_measure.j0]
    rw [if_neg (by decide)]
  unfold alias_measure.f
  refine Ev.congr (fun k => by rw [if_neg (by rw [ofN_length]; omega)]) ?_
  refine Ev.bind ht ?_
  by_cases hs : m.sum < 18446744073709551616
  · rw [if_pos hs]
    have hf : ¬ m.sum * m.length < 18446744073709551616 := fun e => h ⟨hs, e⟩
    have hmul := mul_nat m.sum m.length hs (by omega)
    rw [if_neg hf] at hmul
    refine Ev.congr (fun k => ?_) (hno (m.sum : Int))
    rw [if_pos rfl, ofN_length, u64w (by omega) (by omega), hmul, Option.bind_some]
  · rw [if_neg hs]
    refine Ev.congr (fun k => ?_) (hno 0)
    rw [if_neg (by decide)]
theorem measure_zero (m : List Nat) (hm : Words m) (hn : m.length ≤ 300) (h : m.sum = 0) : Ev (fun k => alias_measure.f k (ofN m)) (0, 1) := by
  have ht := total_ev m hm (by omega)
  rw [if_pos (by omega), h] at ht
  unfold alias_measure.f
  refine Ev.congr (fun k => by rw [if_neg (by rw [ofN_length]; omega)]) ?_
  refine Ev.bind ht ?_
  have hmul := mul_nat 0 m.length (by decide) (by omega)
  rw [Nat.zero_mul, if_pos (by decide)] at hmul
  refine Ev.step (f := fun _ => some ((0 : Int), (1 : Int))) (fun k => ?_) (Ev.now _)
  rw [if_pos rfl, ofN_length, u64w (by omega) (by omega), hmul, Option.bind_some]
  simp only [alias_measure.j0]
  rw [if_pos trivial]
  rfl
theorem built_right (T n : Nat) (w c o : Nat → Nat) (h0 : 0 < T) (hn : 0 < n) (h : Built T n w c o) : rightB (T : Int) (mkC n c o) = true := by
  unfold rightB
  rw [mkC_length, decide_eq_true (show (0 : Int) < T by omega), decide_eq_true (show (0 : Int) < n by omega), Bool.true_and, Bool.true_and]
  rw [Bool.not_eq_true']
  apply List.any_eq_false.2
  intro x hx
  unfold mkC at hx
  obtain ⟨j, hj, rfl⟩ := List.mem_map.1 hx
  have hjn := List.mem_range.1 hj
  obtain ⟨h1, h2⟩ := h.1 j hjn
  unfold alias_right.bad
  rw [decide_eq_false (show ¬ ((T : Int) < ((c j : Nat) : Int)) by omega), decide_eq_false (show ¬ (((o j : Nat) : Int) < 0) by omega), decide_eq_false (show ¬ ((n : Int) ≤ ((o j : Nat) : Int)) by omega)]
  decide
theorem built_cols (T n : Nat) (w c o : Nat → Nat) (h : Built T n w c o) : Cols T (mkC n c o) c o := by
  intro j hj
  rw [mkC_length] at hj ⊢
  exact ⟨rd_mkC n c o j hj, h.1 j hj⟩
end Go.Proofs.Ytjphoempoinedaa.N
end
