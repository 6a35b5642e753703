-- Cut for this claim by a program (wip/prune.py) out of the texts that its bench laid or wrote
import Derived.Test.YtmfacoccojenlaaDoorSlotsQ
import Derived.Test.YtmfacoccojenlaaDoorFRef11A
namespace Go.Proofs.YtmfacoccojenlaaDoor.N
open Go Go.RowKit Go.Proofs.YtmfacoccojenlaaDoor.F Go.Proofs.YtmfacoccojenlaaDoorW.PrintWords Go.Proofs.YtmfacoccojenlaaDoorW.PrintLast Go.Proofs.YtmfacoccojenlaaDoorW.PrintMore
set_option linter.unusedSimpArgs false
set_option linter.unusedVariables false
theorem rdb (l : List Bool) (j : Nat) : rdOf false l (j : Int) = l.getD j false := by unfold rdOf; rw [Int.toNat_natCast]
theorem rfree_l0 (l : List Bool) (hl : l.length ≤ 4096) (d : Nat) : ∀ j : Nat, l.length - j = d → j ≤ l.length → (∀ i, i < j → l.getD i false = true) → Ev (fun k => tombolaref11_Free.l0 k l (j : Int)) (if fz l = l.length then -1 else (fz l : Int)) := by
  induction d with
  | zero =>
    intro j hd hj hp
    obtain rfl : j = l.length := by omega
    have e : fz l = l.length := fz_is hp (by rw [List.getD_eq_getElem?_getD, List.getElem?_eq_none (Nat.le_refl _)]; rfl)
    rw [if_pos e]
    refine Ev.step (f := fun _ => some _) (fun k => ?_) (Ev.now _)
    simp only [tombolaref11_Free.l0]
    rw [if_neg (by omega)]
  | succ d ih =>
    intro j hd hj hp
    cases hb : l.getD j false with
    | true =>
      refine Ev.step (fun k => ?_) (ih (j + 1) (by omega) (by omega) (fun i hi => by
        rcases Nat.lt_or_ge i j with q | q
        · exact hp i q
        · rw [show i = j from by omega]; exact hb))
      simp only [tombolaref11_Free.l0]
      rw [if_pos (by omega), if_pos (by omega), rdb, hb, if_pos rfl, i64w (by omega) (by omega)]
      rfl
    | false =>
      have e : fz l = j := fz_is hp hb
      rw [if_neg (by omega), e]
      refine Ev.step (f := fun _ => some _) (fun k => ?_) (Ev.now _)
      simp only [tombolaref11_Free.l0]
      rw [if_pos (by omega), if_pos (by omega), rdb, hb, if_neg (by decide)]
theorem rfree_ev (l : List Bool) (hl : l.length ≤ 4096) : Ev (fun k => tombolaref11_Free.f k l) (if fz l = l.length then -1 else (fz l : Int)) :=
  rfree_l0 l hl l.length 0 rfl (Nat.zero_le _) (fun i h => absurd h (Nat.not_lt_zero _))
def idxTo (l : List Bool) (j : Nat) : List Int := ((List.range j).filter fun i => l.getD i false).map fun (i : Nat) => (i : Int)
theorem idxTo_succ (l : List Bool) (j : Nat) : idxTo l (j + 1) = if l.getD j false = true then idxTo l j ++ [(j : Int)] else idxTo l j := by
  unfold idxTo
  rw [List.range_succ, List.filter_append, List.map_append]
  by_cases h : l.getD j false = true
  · rw [if_pos h]
    simp only [List.filter_cons, List.filter_nil, h, if_true, List.map_cons, List.map_nil]
  · rw [if_neg h]
    have h' : l.getD j false = false := by simpa using h
    simp only [List.filter_cons, List.filter_nil, h', Bool.false_eq_true, if_false, List.map_nil, List.append_nil]
theorem idxTo_len (l : List Bool) (j : Nat) : (idxTo l j).length ≤ j := by
  unfold idxTo
  rw [List.length_map]
  exact Nat.le_trans (List.length_filter_le _ _) (by rw [List.length_range]; exact Nat.le_refl _)
theorem rall_l0 (l : List Bool) (hl : l.length ≤ 4096) (d : Nat) : ∀ j : Nat, l.length - j = d → j ≤ l.length → Ev (fun k => tombolaref11_All.l0 k l (idxTo l j) (j : Int)) (idx l) := by
  induction d with
  | zero =>
    intro j hd hj
    obtain rfl : j = l.length := by omega
    refine Ev.step (f := fun _ => some _) (fun k => ?_) (Ev.now _)
    simp only [tombolaref11_All.l0]
    rw [if_neg (by omega)]; rfl
  | succ d ih =>
    intro j hd hj
    have h := ih (j + 1) (by omega) (by omega)
    rw [idxTo_succ] at h
    have hln := idxTo_len l j
    refine Ev.step (fun k => ?_) h
    simp only [tombolaref11_All.l0]
    rw [if_pos (by omega), if_pos (by omega), rdb, i64w (by omega) (by omega)]
    by_cases hb : l.getD j false = true
    · rw [if_pos hb, if_pos hb, if_pos (by omega)]; rfl
    · rw [if_neg hb, if_neg hb]; rfl
theorem rall_ev (l : List Bool) (hl : l.length ≤ 4096) : Ev (fun k => tombolaref11_All.f k l) (idx l) :=
  rall_l0 l hl l.length 0 rfl (Nat.zero_le _)
theorem ints_l0 (a : List Int) (ha : a.length ≤ 1000000000) (d : Nat) : ∀ j : Nat, a.length - j = d → j ≤ a.length → Ev (fun k => tombolaref11_Ints.l0 k a a (j : Int)) true := by
  induction d with
  | zero =>
    intro j hd hj
    obtain rfl : j = a.length := by omega
    refine Ev.step (f := fun _ => some _) (fun k => ?_) (Ev.now _)
    simp only [tombolaref11_Ints.l0]
    rw [if_neg (by omega)]
  | succ d ih =>
    intro j hd hj
    refine Ev.step (fun k => ?_) (ih (j + 1) (by omega) (by omega))
    simp only [tombolaref11_Ints.l0]
    rw [if_pos (by omega), if_pos (by omega), if_pos (by omega), if_pos trivial, i64w (by omega) (by omega)]
    rfl
theorem ints_ev (a : List Int) (ha : a.length ≤ 1000000000) : Ev (fun k => tombolaref11_Ints.f k a a) true := by
  refine Ev.congr (fun k => ?_) (ints_l0 a ha a.length 0 rfl (Nat.zero_le _))
  unfold tombolaref11_Ints.f
  rw [if_pos rfl]; rfl
theorem idx_len (l : List Bool) : (idx l).length ≤ l.length := idxTo_len l l.length
theorem idx_first (l : List Bool) : (idx l = [] ∧ ∀ i, l.getD i false = false) ∨ ∃ p, p < l.length ∧ l.getD p false = true ∧ idx l = (p : Int) :: idx (l.set p false) := by
  by_cases h : ∃ p, l.getD p false = true
  · right
    obtain ⟨p0, hp0⟩ := h
    obtain ⟨p, hp, hmin⟩ : ∃ p, l.getD p false = true ∧ ∀ j, j < p → l.getD j false = false := by
      have : ∀ n, (∃ q, q ≤ n ∧ l.getD q false = true) → ∃ p, l.getD p false = true ∧ ∀ j, j < p → l.getD j false = false := by
        intro n
        induction n with
        | zero =>
          rintro ⟨q, hq, ht⟩
          obtain rfl : q = 0 := by omega
          exact ⟨0, ht, fun j h => absurd h (Nat.not_lt_zero _)⟩
        | succ n ih =>
          rintro ⟨q, hq, ht⟩
          by_cases h2 : ∃ q, q ≤ n ∧ l.getD q false = true
          · exact ih h2
          · refine ⟨q, ht, fun j hj => ?_⟩
            cases hb : l.getD j false with
            | false => rfl
            | true => exact absurd ⟨j, by omega, hb⟩ h2
      exact this p0 ⟨p0, Nat.le_refl _, hp0⟩
    have hlt := getD_lt hp
    refine ⟨p, hlt, hp, ?_⟩
    unfold idx
    rw [List.length_set, filter_first l.length p _ hlt hmin hp, List.map_cons]
    congr 2
    apply List.filter_congr
    intro j _
    rw [getD_set _ _ _ _ hlt]
    by_cases e : j = p
    · subst e; simp
    · simp [e]
  · left
    have hf : ∀ i, l.getD i false = false := fun i => by
      cases hb : l.getD i false with
      | false => rfl
      | true => exact absurd ⟨i, hb⟩ h
    refine ⟨?_, hf⟩
    unfold idx
    rw [List.filter_eq_nil_iff.2 (fun j _ => by rw [hf j]; decide)]; rfl
end Go.Proofs.YtmfacoccojenlaaDoor.N
