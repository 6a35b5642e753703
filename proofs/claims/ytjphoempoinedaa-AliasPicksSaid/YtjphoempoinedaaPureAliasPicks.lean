-- Cut for this claim by a program (wip/prune.py) out of the texts that its bench laid or wrote
import Derived.Test.YtjphoempoinedaaAliasC
namespace Go.Proofs.Ytjphoempoinedaa.N
open Go Go.RowKit Go.Proofs.Ytjphoempoinedaa.F Go.Proofs.YtjphoempoinedaaW.PrintWords Go.Proofs.YtjphoempoinedaaW.PrintLast Go.Proofs.YtjphoempoinedaaW.PrintMore Go.Proofs.Ytjphoempoinedaa.Digs
set_option linter.unusedSimpArgs false
set_option linter.unusedVariables false
theorem wfA {x : Int} (h : (Lit.int .u64 x).wf = true) : ∃ n : Nat, x = n ∧ n < 18446744073709551616 := by
  have h2 : 0 ≤ x ∧ x ≤ 18446744073709551615 := by simpa [Lit.wf, IntKind.min, IntKind.max, IntKind.signed, IntKind.bits] using h
  exact ⟨x.toNat, by omega, by omega⟩
theorem cols_of (T : Nat) (l : List S107) (hw : ∀ x, x ∈ l → (Lit.int .u64 x.f0).wf = true) (hR : rightB (T : Int) l = true) :
    0 < T ∧ 0 < l.length ∧ ∃ c o, Cols T l c o := by
  unfold rightB at hR
  simp only [Bool.and_eq_true, decide_eq_true_eq, Bool.not_eq_true'] at hR
  obtain ⟨⟨h1, h2⟩, h3⟩ := hR
  refine ⟨by omega, by omega, fun j => (rd_T107 l (j : Int)).f0.toNat, fun j => (rd_T107 l (j : Int)).f1.toNat, fun j hj => ?_⟩
  have hb : alias_right.bad (T : Int) l.length l[j] = false := by
    have := List.any_eq_false.1 h3 l[j] (List.getElem_mem hj)
    exact Bool.eq_false_iff.mpr this
  obtain ⟨n, en, hn⟩ := wfA (hw _ (List.getElem_mem hj))
  have hrd := rd_at l j hj
  unfold alias_right.bad at hb
  simp only [Bool.or_eq_false_iff, decide_eq_false_iff_not] at hb
  obtain ⟨⟨b1, b2⟩, b3⟩ := hb
  dsimp only
  rw [hrd]
  refine ⟨?_, by omega, by omega⟩
  rw [Int.toNat_of_nonneg (by omega), Int.toNat_of_nonneg (by omega)]
theorem numbers_eq (T : Nat) (l : List S107) (hT : T < 18446744073709551616) (hl : l.length ≤ 300) (hR : rightB (T : Int) l = true) :
    alias_Numbers.f (T : Int) l = some (if T * l.length < 18446744073709551616 then (((T * l.length : Nat) : Int), true) else (0, false)) := by
  unfold alias_Numbers.f
  rw [right_eq, hR, Option.bind_some, if_pos rfl, u64w (by omega) (by omega), mul_nat T l.length hT (by omega)]
  rfl
theorem numbers_no (T : Int) (l : List S107) (hR : rightB T l = false) : alias_Numbers.f T l = some (0, false) := by
  unfold alias_Numbers.f
  rw [right_eq, hR]; rfl
def pickA (T : Nat) (n : Nat) (c o : Nat → Nat) (r : Nat) : Int × Bool :=
  if T * n < 18446744073709551616 ∧ r < T * n then (if c (r / T) ≤ r % T then ((o (r / T) : Int), true) else (((r / T : Nat) : Int), true)) else (-1, false)
theorem q_arith (T n r : Nat) (hT : 0 < T) (h : r < T * n) : r / T < n := Nat.div_lt_of_lt_mul h
theorem tdiv_nat (r T : Nat) : Int.tdiv (r : Int) (T : Int) = ((r / T : Nat) : Int) := by
  rw [Int.tdiv_eq_ediv_of_nonneg (Int.natCast_nonneg _), Int.natCast_ediv]
theorem tmod_nat (r T : Nat) : Int.tmod (r : Int) (T : Int) = ((r % T : Nat) : Int) := by
  rw [Int.tmod_eq_emod_of_nonneg (Int.natCast_nonneg _), Int.natCast_emod]
theorem pickA_ev (T : Nat) (l : List S107) (c o : Nat → Nat) (hC : Cols T l c o) (h0 : 0 < T) (hT : T < 18446744073709551616) (hl : l.length ≤ 300) (hR : rightB (T : Int) l = true) (r : Nat) :
    Ev (fun k => alias_Pick.f k (T : Int) l (r : Int)) (pickA T l.length c o r) := by
  unfold alias_Pick.f
  rw [numbers_eq T l hT hl hR]
  unfold pickA
  have hno : Ev (fun k => alias_Pick.j0 k (r : Int) true (T : Int) l) (-1, false) := by
    refine Ev.step (f := fun _ => some _) (fun k => ?_) (Ev.now _)
    simp only [alias_Pick.j0]
    rw [if_pos trivial]
  by_cases h1 : T * l.length < 18446744073709551616
  · rw [if_pos h1]
    refine Ev.congr (fun k => by rw [Option.bind_some, if_pos rfl]) ?_
    by_cases h2 : r < T * l.length
    · rw [if_pos ⟨h1, h2⟩, decide_eq_false (show ¬ ((r : Int) ≥ ((T * l.length : Nat) : Int)) by omega)]
      have hq := q_arith T l.length r h0 h2
      obtain ⟨er, hcT, ho⟩ := hC _ hq
      refine Ev.step (f := fun _ => some _) (fun k => ?_) (Ev.now _)
      simp only [alias_Pick.j0]
      rw [tdiv_nat, tmod_nat]
      generalize r / T = q at hq er hcT ho ⊢
      rw [u64w (by omega) (by omega), i64w (by omega) (by omega), er]
      rw [if_neg (by decide), if_neg (by omega), if_pos (Int.natCast_nonneg _), if_pos (by omega)]
      generalize r % T = s
      by_cases h3 : c q ≤ s
      · rw [if_pos h3, if_pos (by show ((s : Nat) : Int) ≥ (c q : Int); omega)]
      · rw [if_neg h3, if_neg (by show ¬ (((s : Nat) : Int) ≥ (c q : Int)); omega)]
    · rw [if_neg (fun h => h2 h.2), decide_eq_true (show ((r : Int) ≥ ((T * l.length : Nat) : Int)) by omega)]
      exact hno
  · rw [if_neg h1, if_neg (fun h => h1 h.1)]
    refine Ev.congr (fun k => by rw [Option.bind_some, if_neg (by decide)]) ?_
    exact hno
theorem pickA_no (T : Int) (l : List S107) (hR : rightB T l = false) (r : Int) : Ev (fun k => alias_Pick.f k T l r) (-1, false) := by
  unfold alias_Pick.f
  rw [numbers_no T l hR]
  refine Ev.congr (fun k => by rw [Option.bind_some, if_neg (by decide)]) ?_
  refine Ev.step (f := fun _ => some _) (fun k => ?_) (Ev.now _)
  simp only [alias_Pick.j0]
  rw [if_pos trivial]
def fairAt (T n : Nat) (c o : Nat → Nat) (m : List Nat) (j : Nat) : Bool := decide (cnt T c o (j : Int) n = m.getD j 0 * m.length)
theorem full_natA (a b : Nat) (ha : a < 18446744073709551616) (hb : b < 18446744073709551616) :
    wide_Full.f a b = some (((a * b / 18446744073709551616 : Nat) : Int), ((a * b % 18446744073709551616 : Nat) : Int)) := by
  rw [full_eq (wd a ha) (wd b hb), ← Int.natCast_mul]
  simp only [Int.natCast_ediv, Int.natCast_emod]
  rfl
theorem fair_l0 (T : Nat) (l : List S107) (c o : Nat → Nat) (hC : Cols T l c o) (hT : T < 18446744073709551616) (hl : l.length ≤ 300) (hR : rightB (T : Int) l = true) (m : List Nat) (hm : Words m) (hml : m.length ≤ 300) (d : Nat) :
    ∀ j : Nat, m.length - j = d → j ≤ m.length → Ev (fun k => alias_Fair.l0 k (ofN m) (ofN m) (m.length : Int) (j : Int) (T : Int) l) ((List.range' j d).all (fairAt T l.length c o m)) := by
  induction d with
  | zero =>
    intro j hd hj
    refine Ev.step (f := fun _ => some _) (fun k => ?_) (Ev.now _)
    simp only [alias_Fair.l0]
    rw [if_neg (by omega)]; rfl
  | succ d ih =>
    intro j hd hj
    have c1 : (j : Int) < (m.length : Int) := by omega
    have w1 : wrap64 ((j : Int) + 1) = ((j + 1 : Nat) : Int) := by rw [i64w (by omega) (by omega)]; omega
    have w2 : IntKind.u64.wrap ((m.length : Int)) = (m.length : Int) := u64w (by omega) (by omega)
    have hw := words_get hm j
    have hf := full_natA (m.getD j 0) m.length hw (by omega)
    have hc := count_ev T l c o hC hT hl hR (j : Int)
    have hn := ih (j + 1) (by omega) (by omega)
    rw [List.range'_succ, List.all_cons]
    have e : fairAt T l.length c o m j = decide (cnt T c o (j : Int) l.length = m.getD j 0 * m.length) := rfl
    rw [e]
    generalize cnt T c o (j : Int) l.length = C at hc ⊢
    generalize hV : m.getD j 0 * m.length = V at hf ⊢
    refine Ev.step (f := fun k => (alias_Count.f k (T : Int) l (j : Int)).bind fun bt106 => (if (!(bt106.1 == ((V / 18446744073709551616 : Nat) : Int)) || (!(bt106.2.1 == ((V % 18446744073709551616 : Nat) : Int)))) = true then (some false) else (alias_Fair.l0 k (ofN m) (ofN m) (m.length : Int) ((j + 1 : Nat) : Int) (T : Int) l))) (fun k => ?_) (Ev.bind hc ?_)
    · simp only [alias_Fair.l0]
      rw [if_pos c1, if_pos (Int.natCast_nonneg _), ofN_length, if_pos c1, rd_ofN, w1, w2, hf]
      rfl
    · by_cases hCV : C = V
      · subst hCV
        rw [decide_eq_true rfl, Bool.true_and]
        refine Ev.congr (fun k => ?_) hn
        rw [if_neg (by simp)]
      · rw [decide_eq_false hCV, Bool.false_and]
        refine Ev.congr (fun k => ?_) (Ev.now _)
        rw [if_pos]
        by_cases hd1 : C / 18446744073709551616 = V / 18446744073709551616
        · have hd2 : ¬ (C % 18446744073709551616 = V % 18446744073709551616) := by omega
          have : (((C % 18446744073709551616 : Nat) : Int) == ((V % 18446744073709551616 : Nat) : Int)) = false := by rw [beq_eq_false_iff_ne]; omega
          rw [this]; simp
        · have : (((C / 18446744073709551616 : Nat) : Int) == ((V / 18446744073709551616 : Nat) : Int)) = false := by rw [beq_eq_false_iff_ne]; omega
          rw [this]; simp
def fairV (T n : Nat) (c o : Nat → Nat) (m : List Nat) : Bool := (decide (m.sum < 18446744073709551616) && decide (m.sum = T) && decide (m.length = n)) && (List.range' 0 m.length).all (fairAt T n c o m)
theorem fair_j0_no (m : List Nat) (T : Int) (l : List S107) : Ev (fun k => alias_Fair.j0 k (ofN m) true T l) false := by
  refine Ev.step (f := fun _ => some _) (fun k => ?_) (Ev.now _)
  simp only [alias_Fair.j0]
  rw [if_pos trivial]
theorem fair_no (m : List Nat) (hm : Words m) (hml : m.length ≤ 300) (T : Int) (l : List S107) (hR : rightB T l = false) : Ev (fun k => alias_Fair.f k T l (ofN m)) false := by
  unfold alias_Fair.f
  refine Ev.bind (total_ev m hm (by omega)) ?_
  rw [right_eq, hR]
  refine Ev.congr (fun k => by rw [Option.bind_some, if_neg (by decide)]) ?_
  exact fair_j0_no m T l
theorem fair_ev (T : Nat) (l : List S107) (c o : Nat → Nat) (hC : Cols T l c o) (hT : T < 18446744073709551616) (hl : l.length ≤ 300) (hR : rightB (T : Int) l = true) (m : List Nat) (hm : Words m) (hml : m.length ≤ 300) :
    Ev (fun k => alias_Fair.f k (T : Int) l (ofN m)) (fairV T l.length c o m) := by
  unfold alias_Fair.f
  refine Ev.bind (total_ev m hm (by omega)) ?_
  rw [right_eq, hR]
  refine Ev.congr (fun k => by rw [Option.bind_some, if_pos rfl]) ?_
  unfold fairV
  by_cases h1 : m.sum < 18446744073709551616
  · rw [if_pos h1, decide_eq_true h1, Bool.true_and]
    refine Ev.congr (fun k => by rw [if_pos rfl]) ?_
    by_cases h2 : m.sum = T
    · refine Ev.congr (fun k => by rw [if_pos (show ((m.sum : Nat) : Int) = (T : Int) by omega)]) ?_
      rw [decide_eq_true h2, Bool.true_and]
      by_cases h3 : m.length = l.length
      · rw [decide_eq_true h3, Bool.true_and]
        have eb : (((ofN m).length : Int) != (l.length : Int)) = false := by rw [ofN_length, h3]; simp
        rw [eb]
        have hf := fair_l0 T l c o hC hT hl hR m hm hml _ 0 rfl (Nat.zero_le _)
        refine Ev.step (fun k => ?_) hf
        simp only [alias_Fair.j0]
        rw [if_neg (by decide), ofN_length]
        rfl
      · rw [decide_eq_false h3, Bool.false_and]
        have eb : (((ofN m).length : Int) != (l.length : Int)) = true := by rw [ofN_length, bne_iff_ne]; omega
        rw [eb]
        exact fair_j0_no m T l
    · refine Ev.congr (fun k => by rw [if_neg (show ¬ (((m.sum : Nat) : Int) = (T : Int)) by omega)]) ?_
      rw [decide_eq_false h2, Bool.false_and, Bool.false_and]
      exact fair_j0_no m T l
  · rw [if_neg h1, decide_eq_false h1, Bool.false_and, Bool.false_and, Bool.false_and]
    refine Ev.congr (fun k => by rw [if_neg (by decide)]) ?_
    exact fair_j0_no m T l
end Go.Proofs.Ytjphoempoinedaa.N
