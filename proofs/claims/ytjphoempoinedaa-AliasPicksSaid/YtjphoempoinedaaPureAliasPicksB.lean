-- Cut for this claim by a program (wip/prune.py) out of the texts that its bench laid or wrote
import Derived.Test.YtjphoempoinedaaPureAliasPicks
import Derived.Test.YtjphoempoinedaaFLaw12AliasPicks
namespace Go.Proofs.Ytjphoempoinedaa.N
open Go Go.RowKit Go.Proofs.Ytjphoempoinedaa.F Go.Proofs.YtjphoempoinedaaW.PrintWords Go.Proofs.YtjphoempoinedaaW.PrintLast Go.Proofs.YtjphoempoinedaaW.PrintMore Go.Proofs.Ytjphoempoinedaa.Digs
set_option linter.unusedSimpArgs false
set_option linter.unusedVariables false
theorem cmp_zero (a b : Nat) : (cmpN a b == 0) = decide (a = b) := by
  unfold cmpN
  by_cases h : a < b
  · rw [if_pos h, decide_eq_false (by omega)]; rfl
  · rw [if_neg h]
    by_cases h2 : b < a
    · rw [if_pos h2, decide_eq_false (by omega)]; rfl
    · rw [if_neg h2, decide_eq_true (by omega)]; rfl
theorem law_l0 (T : Nat) (l : List S107) (c o : Nat → Nat) (hC : Cols T l c o) (hT : T < 18446744073709551616) (hl : l.length ≤ 300) (m : List Nat) (hm : Words m) (hml : m.length ≤ 300) (F : Bool) (hF : Ev (fun k => alias_Fair.f k (T : Int) l (ofN m)) F) (d : Nat) :
    ∀ (j : Nat) (b : Bool), m.length - j = d → j ≤ m.length → (b && (List.range' j d).all (fairAt T l.length c o m)) = F →
    Ev (fun k => tombolalaw12_AliasPicks.l0 k (ofN m) (cols l) b (j : Int) (T : Int) l) true := by
  have hend : ∀ (j : Nat) (b : Bool), b = F → Ev (fun k => tombolalaw12_AliasPicks.j6 k (ofN m) (cols l) b (j : Int) false (T : Int) l) true := by
    intro j b hb
    subst hb
    refine Ev.step (f := fun k => (alias_Fair.f k (T : Int) l (ofN m)).bind fun t139 => (if (t139 == b) = true then ((tombolalaw12_alive.f k).bind fun t140 => (some t140)) else (some false))) (fun k => ?_) (Ev.bind hF ?_)
    · simp only [tombolalaw12_AliasPicks.j6]
      rw [if_neg (by decide)]
    · refine Ev.congr (fun k => by rw [if_pos (beq_self_eq_true b)]) ?_
      exact Ev.bind alive12_ev (Ev.now _)
  induction d with
  | zero =>
    intro j b hd hj hb
    have hb2 : b = F := by rw [← hb]; cases b <;> rfl
    refine Ev.step (fun k => ?_) (hend j b hb2)
    simp only [tombolalaw12_AliasPicks.l0]
    rw [if_neg (by rw [ofN_length]; omega)]
  | succ d ih =>
    intro j b hd hj hb
    have c1 : (j : Int) < ((ofN m).length : Int) := by rw [ofN_length]; omega
    cases b
    · refine Ev.step (fun k => ?_) (hend j false (by rw [← hb]; rfl))
      simp only [tombolalaw12_AliasPicks.l0]
      rw [if_pos c1]
    · have w1 : wrap64 ((j : Int) + 1) = ((j + 1 : Nat) : Int) := by rw [i64w (by omega) (by omega)]; omega
      have w2 : IntKind.u64.wrap ((m.length : Int)) = (m.length : Int) := u64w (by omega) (by omega)
      have hw := words_get hm j
      rw [List.range'_succ, List.all_cons, Bool.true_and] at hb
      have hn := ih (j + 1) (fairAt T l.length c o m j) (by omega) (by omega) hb
      have hr := rcount_ev T l c o hC hT hl (j : Int)
      have hcw := cnt_word (i := (j : Int)) (o := o) hT hl (fun q hq => (hC q hq).2.1) (j := l.length) (Nat.le_refl _)
      have e : fairAt T l.length c o m j = decide (cnt T c o (j : Int) l.length = m.getD j 0 * m.length) := rfl
      rw [e, ← cmp_zero] at hn
      generalize cnt T c o (j : Int) l.length = C at hr hn hcw
      have l1 := len_small (X := C) (by omega)
      have l2 := u64_len hw
      have l3 := u64_len (n := m.length) (by omega)
      have hV : m.getD j 0 * m.length < 1208925819614629174706176 := by
        have : m.getD j 0 * m.length ≤ m.getD j 0 * 300 := Nat.mul_le_mul_left _ hml
        omega
      have l4 := len_small hV
      have hmul := mul_ev (m.getD j 0) m.length (by omega) (by omega)
      have hcmp := cmp_ev C (m.getD j 0 * m.length) (by omega) (by omega)
      have h6 : Ev (fun k => tombolalaw12_AliasPicks.j6 k (ofN m) (cols l) true (j : Int) true (T : Int) l) true := by
        refine Ev.step (f := fun k => (tombolaref12_Count.f k (T : Int) (cols l) (j : Int)).bind fun t141 => ((tombolaref01_Of.f k ((m.getD j 0 : Nat) : Int)).bind fun t145 => ((tombolaref01_Of.f k (m.length : Int)).bind fun t148 => ((tombolaref01_Mul.f k t145 t148).bind fun t151 => ((tombolaref01_Cmp.f k t141 t151).bind fun t154 => (tombolalaw12_AliasPicks.l0 k (ofN m) (cols l) (t154 == 0) ((j + 1 : Nat) : Int) (T : Int) l)))))) (fun k => ?_) ?_
        · simp only [tombolalaw12_AliasPicks.j6]
          rw [if_pos trivial]
          simp only [ofN_length, if_pos (show (j : Int) < (m.length : Int) by omega), if_pos (Int.natCast_nonneg j), rd_ofN, w1, w2]
        · exact Ev.bind hr (Ev.bind (of_ev _ hw) (Ev.bind (of_ev m.length (by omega)) (Ev.bind hmul (Ev.bind hcmp hn))))
      refine Ev.step (fun k => ?_) h6
      simp only [tombolalaw12_AliasPicks.l0]
      rw [if_pos c1]
theorem law_j3 (T : Nat) (l : List S107) (c o : Nat → Nat) (hC : Cols T l c o) (hT : T < 18446744073709551616) (hl : l.length ≤ 300) (hR : rightB (T : Int) l = true) (m : List Nat) (hm : Words m) (hml : m.length ≤ 300) :
    Ev (fun k => tombolalaw12_AliasPicks.j3 k (ofN m) (cols l) (T : Int) l) true := by
  have hF := fair_ev T l c o hC hT hl hR m hm hml
  have h4 : Ev (fun k => tombolalaw12_AliasPicks.j4 k (ofN m) (cols l) (decide (m.sum < 18446744073709551616) && decide (m.sum = T) && decide (m.length = l.length)) (T : Int) l) true := by
    refine Ev.step (fun k => ?_) (law_l0 T l c o hC hT hl m hm hml _ hF _ 0 (decide (m.sum < 18446744073709551616) && decide (m.sum = T) && decide (m.length = l.length)) rfl (Nat.zero_le _) rfl)
    simp only [tombolalaw12_AliasPicks.j4]
    rfl
  refine Ev.step (f := fun k => (tombolaref09_Total.f k (ofN m)).bind fun bt137 => (if bt137.2 = true then (if bt137.1 = (T : Int) then (tombolalaw12_AliasPicks.j4 k (ofN m) (cols l) (((ofN m).length : Int) == ((cols l).length : Int)) (T : Int) l) else (tombolalaw12_AliasPicks.j4 k (ofN m) (cols l) false (T : Int) l)) else (tombolalaw12_AliasPicks.j4 k (ofN m) (cols l) false (T : Int) l))) (fun k => by simp only [tombolalaw12_AliasPicks.j3]) (Ev.bind (rtotal_ev m hm (by omega)) ?_)
  by_cases h1 : m.sum < 18446744073709551616
  · rw [if_pos h1]
    rw [decide_eq_true h1, Bool.true_and] at h4
    refine Ev.congr (fun k => by rw [if_pos rfl]) ?_
    by_cases h2 : m.sum = T
    · rw [decide_eq_true h2, Bool.true_and] at h4
      refine Ev.congr (fun k => by rw [if_pos (show ((m.sum : Nat) : Int) = (T : Int) by omega)]) ?_
      have eb : (((ofN m).length : Int) == ((cols l).length : Int)) = decide (m.length = l.length) := by
        rw [ofN_length, cols_length]
        by_cases h3 : m.length = l.length
        · rw [decide_eq_true h3, h3, beq_self_eq_true]
        · rw [decide_eq_false h3, beq_eq_false_iff_ne]; omega
      rw [eb]
      exact h4
    · rw [decide_eq_false h2, Bool.false_and] at h4
      refine Ev.congr (fun k => by rw [if_neg (show ¬ (((m.sum : Nat) : Int) = (T : Int)) by omega)]) ?_
      exact h4
  · rw [if_neg h1]
    rw [decide_eq_false h1, Bool.false_and, Bool.false_and] at h4
    refine Ev.congr (fun k => by rw [if_neg (by decide)]) ?_
    exact h4
theorem law_j1 (T : Nat) (l : List S107) (c o : Nat → Nat) (hC : Cols T l c o) (h0 : 0 < T) (hT : T < 18446744073709551616) (hl : l.length ≤ 300) (hR : rightB (T : Int) l = true) (m : List Nat) (hm : Words m) (hml : m.length ≤ 300) (r : Nat) (p : Int × Bool) (hp : p = pickA T l.length c o r) (nw : Int × Bool)
    (hn : nw = if T * l.length < 18446744073709551616 then (((T * l.length : Nat) : Int), true) else (0, false)) :
    Ev (fun k => tombolalaw12_AliasPicks.j1 k (r : Int) (ofN m) (cols l) p.1 p.2 nw.1 nw.2 false (T : Int) l) true := by
  have h3 := law_j3 T l c o hC hT hl hR m hm hml
  have hno : p = (-1, false) → Ev (fun k => tombolalaw12_AliasPicks.j2 k (r : Int) (ofN m) (cols l) p.1 p.2 true (T : Int) l) true := fun e => by
    subst e
    refine Ev.step (fun k => ?_) h3
    simp only [tombolalaw12_AliasPicks.j2]
    rw [if_pos trivial, if_pos trivial, if_neg (by decide)]
  unfold pickA at hp
  by_cases h1 : T * l.length < 18446744073709551616
  · rw [if_pos h1] at hn
    subst hn
    by_cases h2 : r < T * l.length
    · rw [if_pos ⟨h1, h2⟩] at hp
      have hq := q_arith T l.length r h0 h2
      obtain ⟨er, hcT, ho⟩ := hC _ hq
      refine Ev.step (f := fun k => tombolalaw12_AliasPicks.j2 k (r : Int) (ofN m) (cols l) p.1 p.2 false (T : Int) l) (fun k => ?_) ?_
      · simp only [tombolalaw12_AliasPicks.j1]
        rw [if_neg (by decide), if_pos trivial, decide_eq_false (show ¬ ((r : Int) ≥ ((T * l.length : Nat) : Int)) by omega)]
      · refine Ev.step (fun k => ?_) h3
        simp only [tombolalaw12_AliasPicks.j2]
        rw [tdiv_nat, tmod_nat]
        generalize r / T = q at hq er hcT ho hp ⊢
        rw [u64w (by omega) (by omega), i64w (by omega) (by omega), rd_cols, er]
        rw [if_neg (by decide), if_neg (by omega), if_pos (Int.natCast_nonneg _), if_pos (by rw [cols_length]; omega)]
        generalize r % T = s at hp ⊢
        by_cases h4 : c q ≤ s
        · rw [if_pos h4] at hp
          subst hp
          rw [if_pos (by show ((s : Nat) : Int) ≥ (c q : Int); omega), if_pos rfl, if_pos rfl]
        · rw [if_neg h4] at hp
          subst hp
          rw [if_neg (by show ¬ (((s : Nat) : Int) ≥ (c q : Int)); omega), if_pos rfl, if_pos rfl]
    · rw [if_neg (fun h => h2 h.2)] at hp
      refine Ev.step (fun k => ?_) (hno hp)
      simp only [tombolalaw12_AliasPicks.j1]
      rw [if_neg (by decide), if_pos trivial, decide_eq_true (show ((r : Int) ≥ ((T * l.length : Nat) : Int)) by omega)]
  · rw [if_neg h1] at hn
    rw [if_neg (fun h => h1 h.1)] at hp
    subst hn
    refine Ev.step (fun k => ?_) (hno hp)
    simp only [tombolalaw12_AliasPicks.j1]
    rw [if_neg (by decide), if_neg (by decide)]
theorem law_alive (r i : Int) (l3 : List Int) (T : Int) (l : List S107) : Ev (fun k => tombolalaw12_AliasPicks.j0 k r i l3 true T l) true := by
  refine Ev.step (f := fun k => (tombolalaw12_alive.f k).bind fun t102 => (some t102)) (fun k => ?_) (Ev.bind alive12_ev (Ev.now _))
  simp only [tombolalaw12_AliasPicks.j0]
  rw [if_pos trivial]
theorem word_evA (n : Nat) : Ev (fun k => tombolaref01_Word.f k (digs n)) (if n < 18446744073709551616 then ((n : Int), true) else (0, false)) := by
  by_cases h : n < 18446744073709551616
  · rw [if_pos h]; exact word_ev _ h
  · rw [if_neg h]; exact word_no _ (Nat.le_of_not_lt h)
theorem law_yes (T : Nat) (l : List S107) (c o : Nat → Nat) (hC : Cols T l c o) (h0 : 0 < T) (hT : T < 18446744073709551616) (hl : l.length ≤ 300) (hR : rightB (T : Int) l = true) (m : List Nat) (hm : Words m) (hml : m.length ≤ 300) (r : Nat) (i : Int) :
    Ev (fun k => tombolalaw12_AliasPicks.j0 k (r : Int) i (ofN m) false (T : Int) l) true := by
  have hcw := cnt_word (i := i) (o := o) hT hl (fun q hq => (hC q hq).2.1) (j := l.length) (Nat.le_refl _)
  have hc := count_ev T l c o hC hT hl hR i
  have hrc := rcount_ev T l c o hC hT hl i
  have hback := back_ev (cnt T c o i l.length) (by omega)
  generalize cnt T c o i l.length = C at hc hrc hback
  have hp := pickA_ev T l c o hC h0 hT hl hR r
  have hj1 := law_j1 T l c o hC h0 hT hl hR m hm hml r _ rfl _ rfl
  have hnum := numbers_eq T l hT hl hR
  have hword := word_evA (T * l.length)
  generalize pickA T l.length c o r = p at hp hj1
  generalize (if T * l.length < 18446744073709551616 then (((T * l.length : Nat) : Int), true) else ((0 : Int), false)) = nw at hj1 hnum hword
  have w2 : IntKind.u64.wrap ((l.length : Int)) = (l.length : Int) := u64w (by omega) (by omega)
  have l1 := u64_len hT
  have l3 := u64_len (n := l.length) (by omega)
  obtain ⟨K1, e1⟩ := columns_ev (T : Int) l (by omega)
  obtain ⟨K2, e2⟩ := hp
  obtain ⟨K3, e3⟩ := hc
  obtain ⟨K4, e4⟩ := rright_ev (T : Int) l (by omega)
  obtain ⟨K5, e5⟩ := of_ev T hT
  obtain ⟨K6, e6⟩ := of_ev l.length (by omega)
  obtain ⟨K7, e7⟩ := mul_ev T l.length (by omega) (by omega)
  obtain ⟨K8, e8⟩ := hword
  obtain ⟨K9, e9⟩ := hrc
  obtain ⟨K10, e10⟩ := hback
  obtain ⟨K11, e11⟩ := hj1
  refine ⟨K1 + K2 + K3 + K4 + K5 + K6 + K7 + K8 + K9 + K10 + K11 + 1, fun k hk => ?_⟩
  obtain ⟨k, rfl⟩ : ∃ k', k = k' + 1 := ⟨k - 1, by omega⟩
  have f1 : tombolalaw12_columns.f k (T : Int) l = some (cols l) := e1 k (by omega)
  have f2 : alias_Pick.f k (T : Int) l (r : Int) = some p := e2 k (by omega)
  have f3 := e3 k (by omega)
  have f4 : tombolaref12_Right.f k (T : Int) (cols l) = some (rightB (T : Int) l) := e4 k (by omega)
  have f5 : tombolaref01_Of.f k (T : Int) = some (digs T) := e5 k (by omega)
  have f6 : tombolaref01_Of.f k (l.length : Int) = some (digs l.length) := e6 k (by omega)
  have f7 : tombolaref01_Mul.f k (digs T) (digs l.length) = some (digs (T * l.length)) := e7 k (by omega)
  have f8 : tombolaref01_Word.f k (digs (T * l.length)) = some nw := e8 k (by omega)
  have f9 : tombolaref12_Count.f k (T : Int) (cols l) i = some (digs C) := e9 k (by omega)
  have f10 := e10 k (by omega)
  have f11 : tombolalaw12_AliasPicks.j1 k (r : Int) (ofN m) (cols l) p.1 p.2 nw.1 nw.2 false (T : Int) l = some true := e11 k (by omega)
  dsimp only at f3 f10
  show tombolalaw12_AliasPicks.j0 (k + 1) (r : Int) i (ofN m) false (T : Int) l = some true
  simp only [tombolalaw12_AliasPicks.j0]
  rw [if_neg (by decide), f1, Option.bind_some, f2, Option.bind_some, hnum, Option.bind_some, f3, Option.bind_some, f4, Option.bind_some, if_pos hR, f5, Option.bind_some, cols_length, w2, f6, Option.bind_some, f7, Option.bind_some, f8, Option.bind_some, f9, Option.bind_some, f10, Option.bind_some, if_pos rfl, if_neg (by simp), if_neg (by simp)]
  exact f11
theorem law_no (T : Int) (l : List S107) (hl : l.length ≤ 300) (hR : rightB T l = false) (m : List Nat) (hm : Words m) (hml : m.length ≤ 300) (r i : Int) :
    Ev (fun k => tombolalaw12_AliasPicks.j0 k r i (ofN m) false T l) true := by
  obtain ⟨K1, e1⟩ := columns_ev T l (by omega)
  obtain ⟨K2, e2⟩ := pickA_no T l hR r
  obtain ⟨K4, e4⟩ := rright_ev T l (by omega)
  obtain ⟨K5, e5⟩ := fair_no m hm hml T l hR
  obtain ⟨K6, e6⟩ := alive12_ev
  refine ⟨K1 + K2 + K4 + K5 + K6 + 1, fun k hk => ?_⟩
  obtain ⟨k, rfl⟩ : ∃ k', k = k' + 1 := ⟨k - 1, by omega⟩
  have f1 : tombolalaw12_columns.f k T l = some (cols l) := e1 k (by omega)
  have f2 : alias_Pick.f k T l r = some (-1, false) := e2 k (by omega)
  have f3 : alias_Count.f k T l i = some (0, 0, false) := by
    unfold alias_Count.f
    rw [right_eq, hR]; rfl
  have f4 : tombolaref12_Right.f k T (cols l) = some (rightB T l) := e4 k (by omega)
  have f5 : alias_Fair.f k T l (ofN m) = some false := e5 k (by omega)
  have f6 : tombolalaw12_alive.f k = some true := e6 k (by omega)
  show tombolalaw12_AliasPicks.j0 (k + 1) r i (ofN m) false T l = some true
  simp only [tombolalaw12_AliasPicks.j0]
  rw [if_neg (by decide), f1, Option.bind_some, f2, Option.bind_some, numbers_no T l hR, Option.bind_some, f3, Option.bind_some, f4, Option.bind_some, if_neg (by rw [hR]; decide), if_pos rfl, if_neg (by decide), if_pos rfl, if_neg (by decide), if_pos (by decide), if_neg (by decide), f5, Option.bind_some, if_neg (by decide), f6, Option.bind_some]
theorem pureAliasPicks (T : Int) (l : List S107) (r i : Int) (l3 : List Int) (wT : (Lit.int .u64 T).wf = true) (wl : ∀ x, x ∈ l → (Lit.int .u64 x.f0).wf = true) (wr : (Lit.int .u64 r).wf = true) (w3 : ∀ x, x ∈ l3 → (Lit.int .u64 x).wf = true) :
    ∃ k, tombolalaw12_AliasPicks.f k T l r i l3 = some true := by
  refine Ev.rounds ?_
  obtain ⟨T, rfl, hT⟩ := wfA wT
  obtain ⟨r, rfl, hr⟩ := wfA wr
  obtain ⟨m, rfl, hm⟩ := ofN_of l3 w3
  unfold tombolalaw12_AliasPicks.f
  by_cases g1 : (l.length : Int) > 100
  · refine Ev.congr (fun k => by rw [if_pos g1]) ?_
    exact law_alive _ _ _ _ _
  · refine Ev.congr (fun k => by rw [if_neg g1]) ?_
    by_cases g2 : ((ofN m).length : Int) > 100
    · rw [decide_eq_true g2]
      exact law_alive _ _ _ _ _
    · rw [decide_eq_false g2]
      have hml : m.length ≤ 300 := by rw [ofN_length] at g2; omega
      cases hR : rightB (T : Int) l
      · exact law_no _ l (by omega) hR m hm hml _ _
      · obtain ⟨h0, _, c, o, hC⟩ := cols_of T l wl hR
        exact law_yes T l c o hC h0 hT (by omega) hR m hm hml r i
end Go.Proofs.Ytjphoempoinedaa.N
