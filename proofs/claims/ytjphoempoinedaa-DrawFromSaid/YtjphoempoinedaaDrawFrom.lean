import Derived.Test.YtjphoempoinedaaPureDraw
import Derived.Test.YtjphoempoinedaaFRef08A
import Derived.Test.YtjphoempoinedaaFDrawA
namespace Go.Proofs.Ytjphoempoinedaa.N
open Go Go.RowKit Go.Proofs.Ytjphoempoinedaa.F Go.Proofs.YtjphoempoinedaaW.PrintWords Go.Proofs.YtjphoempoinedaaW.PrintLast Go.Proofs.YtjphoempoinedaaW.PrintMore Go.Proofs.Ytjphoempoinedaa.Digs
set_option linter.unusedSimpArgs false
set_option linter.unusedVariables false
/-! A draw off words, without the program. -/
def WdsL (l : List Int) : Prop := ∀ x, x ∈ l → 0 ≤ x ∧ x < 18446744073709551616
/-- What the document tells of words, from place i on. -/
def ansF (t : Nat) : List Int → Nat → Int × Int
  | [], _ => (0, 0)
  | x :: xs, i => if takenN t x.toNat = true then (((x.toNat % t : Nat) : Int), ((i + 1 : Nat) : Int)) else ansF t xs (i + 1)
/-- What the program takes, from place p on; it was at at0. -/
def ansP (t : Nat) (at0 : Int) : List Int → Nat → Int × Int × Int
  | [], _ => (0, 11, at0)
  | x :: xs, p => if takenN t x.toNat = true then (((x.toNat % t : Nat) : Int), 0, ((p + 1 : Nat) : Int)) else ansP t at0 xs (p + 1)
theorem tell_at (t : Nat) (ht : t < 18446744073709551616) {x : Int} (h0 : 0 ≤ x) : draw_Tell.f (t : Int) x = some (tellN t x.toNat) := by
  have := tell_eq t x.toNat ht
  rwa [Int.toNat_of_nonneg h0] at this
theorem refTell_at (t : Nat) (ht : t < 18446744073709551616) {x : Int} (h0 : 0 ≤ x) (h1 : x < 18446744073709551616) : Ev (fun k => tombolaref08_Tell.f k (t : Int) x) (tellN t x.toNat) := by
  have := refTell_ev t x.toNat ht (by omega)
  rwa [Int.toNat_of_nonneg h0] at this
theorem refFrom_l0 (t : Nat) (ht : t < 18446744073709551616) (l : List Int) (hw : WdsL l) (hl : l.length ≤ 1000000) : ∀ (m i : Nat), i + m = l.length → Ev (fun k => tombolaref08_From.l0 k l (t : Int) (i : Int)) (ansF t (l.drop i) i) := by
  intro m
  induction m with
  | zero =>
    intro i hi
    rw [List.drop_eq_nil_of_le (by omega)]
    refine Ev.step (f := fun _ => some (0, 0)) (fun k => ?_) (ev_some _)
    simp only [tombolaref08_From.l0]
    rw [if_neg (by omega)]
  | succ m ih =>
    intro i hi
    have hlt : i < l.length := by omega
    have hx := hw l[i] (List.getElem_mem hlt)
    rw [List.drop_eq_getElem_cons hlt]
    refine Ev.step (f := fun k => (tombolaref08_Tell.f k (t : Int) l[i]).bind fun bt102 => (if bt102.2 = true then (some (bt102.1, ((i + 1 : Nat) : Int))) else (tombolaref08_From.l0 k l (t : Int) ((i + 1 : Nat) : Int)))) (fun k => ?_) ?_
    · simp only [tombolaref08_From.l0]
      rw [if_pos (by omega), if_pos (by omega), show rd l (i : Int) = l[i] by simp [rd, hlt], i64w (by omega) (by omega)]
      rfl
    · refine Ev.bind (refTell_at t ht hx.1 hx.2) ?_
      unfold ansF tellN
      by_cases hk : takenN t l[i].toNat = true
      · rw [if_pos hk, if_pos hk]
        exact ev_of_eq fun k => by simp
      · rw [if_neg hk, if_neg hk]
        exact Ev.congr (fun k => by simp) (ih (i + 1) (by omega))
theorem from_l0 (t : Nat) (ht : t < 18446744073709551616) (at0 : Nat) (l : List Int) (hw : WdsL l) (hl : l.length ≤ 1000000) (ha : at0 ≤ l.length) : ∀ (m p : Nat), p + m = l.length → Ev (fun k => draw_From.l0 k (t : Int) (at0 : Int) l (p : Int)) (ansP t (at0 : Int) (l.drop p) p) := by
  intro m
  induction m with
  | zero =>
    intro p hp
    rw [List.drop_eq_nil_of_le (by omega)]
    refine Ev.step (f := fun _ => some (0, 11, (at0 : Int))) (fun k => ?_) (ev_some _)
    simp only [draw_From.l0]
    unfold words_Source_Take.f words_Source_Peek.f words_Source_Seek.f
    rw [if_pos (show (p : Int) = (l.length : Int) by omega)]
    simp only [Option.bind_some]
    rw [if_neg (by decide)]
    simp only [Option.bind_some]
    rw [if_neg (by decide), if_neg (by omega), if_neg (by omega)]
    rfl
  | succ m ih =>
    intro p hp
    have hlt : p < l.length := by omega
    have hx := hw l[p] (List.getElem_mem hlt)
    rw [List.drop_eq_getElem_cons hlt]
    refine Ev.step (f := fun k => (draw_Tell.f (t : Int) l[p]).bind fun bt106 => (if bt106.2 = true then (some (bt106.1, 0, ((p + 1 : Nat) : Int))) else (draw_From.l0 k (t : Int) (at0 : Int) l ((p + 1 : Nat) : Int)))) (fun k => ?_) ?_
    · simp only [draw_From.l0]
      unfold words_Source_Take.f words_Source_Peek.f
      rw [if_neg (show ¬ (p : Int) = (l.length : Int) by omega), if_pos (by omega), if_pos (by omega), show rd l (p : Int) = l[p] by simp [rd, hlt]]
      simp only [Option.bind_some]
      rw [if_pos trivial]
      simp only [Option.bind_some]
      rw [if_pos trivial, i64w (by omega) (by omega)]
      rfl
    · rw [tell_at t ht hx.1]
      unfold ansP tellN
      by_cases hk : takenN t l[p].toNat = true
      · rw [if_pos hk, if_pos hk]
        exact ev_of_eq fun k => by simp
      · rw [if_neg hk, if_neg hk]
        exact Ev.congr (fun k => by simp) (ih (p + 1) (by omega))
theorem has_taken (t : Nat) (ht : t < 18446744073709551616) {x : Int} (h0 : 0 ≤ x) : draw_Least.has (t : Int) x = takenN t x.toNat := by
  have h1 := draw_Least.has_eq (t : Int) x
  have h2 := taken_eq t x.toNat ht
  rw [Int.toNat_of_nonneg h0, h1] at h2
  exact Option.some.inj h2
/-- The three of them. -/
theorem from_same (t : Nat) (ht : t < 18446744073709551616) (at0 : Nat) : ∀ (xs : List Int) (i : Nat), WdsL xs →
    ((ansF t xs i).2 = 0 ∧ (ansF t xs i).1 = 0 ∧ ansP t (at0 : Int) xs (at0 + i) = (0, 11, (at0 : Int)) ∧ firstAt (fun x => draw_Least.has (t : Int) x) xs (i : Int) = -1) ∨
    (((i + 1 : Nat) : Int) ≤ (ansF t xs i).2 ∧ (ansF t xs i).2 ≤ ((i + xs.length : Nat) : Int) ∧ ansP t (at0 : Int) xs (at0 + i) = ((ansF t xs i).1, 0, (at0 : Int) + (ansF t xs i).2) ∧ firstAt (fun x => draw_Least.has (t : Int) x) xs (i : Int) = (ansF t xs i).2 - 1 ∧ 0 < t) := by
  intro xs
  induction xs with
  | nil => intro i _; exact .inl ⟨rfl, rfl, rfl, rfl⟩
  | cons x xs ih =>
    intro i hw
    have hx := hw x (List.mem_cons_self ..)
    have hh := has_taken t ht hx.1
    unfold ansF ansP firstAt
    rw [hh]
    by_cases hk : takenN t x.toNat = true
    · have h0 := (of_decide_eq_true hk).1
      rw [if_pos hk, if_pos hk, if_pos hk]
      refine .inr ⟨Int.le_refl _, by simp only [List.length_cons]; omega, ?_, by simp only; omega, h0⟩
      simp only [Prod.mk.injEq, true_and]
      omega
    · rw [if_neg hk, if_neg hk, if_neg hk]
      have h2 := ih (i + 1) (fun y hy => hw y (List.mem_cons_of_mem _ hy))
      rw [show at0 + (i + 1) = at0 + i + 1 by omega, show ((i + 1 : Nat) : Int) = (i : Int) + 1 by omega] at h2
      rcases h2 with h2 | h2
      · exact .inl h2
      · refine .inr ⟨by omega, by simp only [List.length_cons]; omega, h2.2.2⟩
/-- All that the law asks. -/
theorem from_facts (t : Nat) (ht : t < 18446744073709551616) (l : List Int) (hw : WdsL l) (hl : l.length ≤ 200) (at0 : Nat) (ha : at0 ≤ l.length) :
    ∃ kf kr n e a r m, draw_From.f kf l (at0 : Int) (t : Int) = some (n, e, a) ∧ tombolaref08_From.f kr (l.drop at0) (t : Int) = some (r, m) ∧ draw_Least.f (t : Int) (l.drop at0) = some m ∧
      (((t : Int) = 0 ∧ n = 0 ∧ e = 1 ∧ a = (at0 : Int)) ∨ (¬ (t : Int) = 0 ∧ m = 0 ∧ n = 0 ∧ e = 11 ∧ a = (at0 : Int)) ∨ (¬ (t : Int) = 0 ∧ ¬ m = 0 ∧ n = r ∧ e = 0 ∧ wrap64 ((at0 : Int) + m) = a)) := by
  have hwd : WdsL (l.drop at0) := fun x hx => hw x (List.mem_of_mem_drop hx)
  have hld : (l.drop at0).length ≤ 200 := by rw [List.length_drop]; omega
  obtain ⟨kr, hkr⟩ := Ev.rounds (refFrom_l0 t ht (l.drop at0) hwd (by omega) (l.drop at0).length 0 (by omega))
  rw [List.drop_zero] at hkr
  have hs := from_same t ht at0 (l.drop at0) 0 hwd
  have hle : draw_Least.f (t : Int) (l.drop at0) = some (ansF t (l.drop at0) 0).2 := by
    unfold draw_Least.f
    congr 1
    rcases hs with hs | hs
    · rw [show ((0 : Nat) : Int) = 0 from rfl] at hs
      rw [hs.2.2.2, hs.1, i64w (by omega) (by omega)]; rfl
    · rw [show ((0 : Nat) : Int) = 0 from rfl] at hs
      rw [hs.2.2.2.1, i64w (by omega) (by omega)]; omega
  by_cases h0 : (t : Int) = 0
  · refine ⟨0, kr, 0, 1, at0, _, _, ?_, hkr, hle, .inl ⟨h0, rfl, rfl, rfl⟩⟩
    unfold draw_From.f
    rw [if_pos h0]
  · obtain ⟨kf, hkf⟩ := Ev.rounds (from_l0 t ht at0 l hw (by omega) ha (l.length - at0) at0 (by omega))
    have hf : draw_From.f kf l (at0 : Int) (t : Int) = some (ansP t (at0 : Int) (l.drop at0) at0) := by
      unfold draw_From.f words_Source_At.f
      rw [if_neg h0]
      exact hkf
    rw [Nat.add_zero] at hs
    rcases hs with hs | hs
    · rw [hs.2.2.1] at hf
      exact ⟨kf, kr, _, _, _, _, _, hf, hkr, hle, .inr (.inl ⟨h0, hs.1, rfl, rfl, rfl⟩)⟩
    · rw [hs.2.2.1] at hf
      exact ⟨kf, kr, _, _, _, _, _, hf, hkr, hle, .inr (.inr ⟨h0, by omega, rfl, rfl, by rw [i64w (by omega) (by omega)]⟩)⟩
end Go.Proofs.Ytjphoempoinedaa.N
