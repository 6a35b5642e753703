-- Cut for this claim by a program (wip/prune.py) out of the texts that its bench laid or wrote
import Derived.Test.YtmfacoccojenlaaDoorSlots2
import Derived.Test.YtmfacoccojenlaaDoorSlotsP
section
namespace Go.Proofs.YtmfacoccojenlaaDoor.F
open Go.RowKit Go.Proofs.YtmfacoccojenlaaDoorW.PrintWords Go.Proofs.YtmfacoccojenlaaDoorW.PrintLast Go.Proofs.YtmfacoccojenlaaDoorW.PrintMore
set_option linter.unusedSimpArgs false
set_option linter.unusedVariables false
open Go.Proofs.YtmfacoccojenlaaDoor.N (ofN Bits fz cnt)
def stL (j : Nat) : List Bool := List.replicate j true ++ List.replicate (3 - j) false
theorem sl_take {base : Nat} {w : World} {g : Nat} {v : Value} {ws : List Nat} {l : List Bool} (p : Nat) (l2 : List Bool) (h : Sl base w g v ws l) (hp : fz l = p) (hl : p ≠ l.length) (h2 : l.set p true = l2) (hb : base ≤ w.heap.size) (HT : Aside0 (Tab w)) :
    Calls Tryd.prog 8 #[.pointer (some ⟨g, 0, none⟩)] w fun e w' => e = .returned (.tuple #[.int .i64 (p : Int), .int .i64 0]) ∧ ∃ ws', Sl base w' g v ws' l2 ∧ Below base w w' := by
  subst hp h2
  exact (slots_Slots_Take.own h hl HT).mono fun e w' ⟨he, ws', hs, _, hb⟩ => ⟨he, ws', hs, hb⟩
set_option maxHeartbeats 8000000 in
set_option maxRecDepth 100000 in
theorem tombolalaw11_alive.own (w : World) (HT : Aside0 (Tab w)) : Calls Tryd.prog 5 #[] w fun e w' => e = .returned (.bool true) ∧ Below w.heap.size w w' := by
  have hu := Tryd.underlying43
  have HN := Aside0.mk (show Calls Tryd.prog 6 #[.int .i64 3] w _ from slots_New.own 3 (by decide) (by decide) w)
  go_enter Tryd.func5, Tryd.ntmps5
  go_wp2_with (first
    | (go_at_call 6; (with_reducible refine HN.out.mono ?_); rintro e w1 ⟨g, v, rfl, hs, hb⟩; have HS := Aside0.mk hs; have HB := Aside0.mk hb; clear hs hb)
    | (go_at_call 6; (with_reducible refine (slots_New.no 0 (.inl (by decide)) _).mono ?_); rintro e w2 ⟨rfl, rfl⟩))
  go_loopg [5] 4 (fun kq v5 W => ∃ (j : Nat) (ws : List Nat), j ≤ 3 ∧ 3 - j < kq ∧ v5 = .int .i64 (j : Int) ∧ Aside0 (Sl w.heap.size W g v ws (stL j)) ∧ Aside0 (Below w.heap.size w W))
  case atStart => exact ⟨0, _, by decide, by decide, rfl, HS, HB⟩
  case round =>
    clear HS HB
    obtain ⟨j, ws, hj0, hj1, rfl, HS, HB⟩ := hrel
    cases gk with
    | zero => exact absurd hj1 (by omega)
    | succ gk =>
      by_cases hlt : j < 3
      · have hfz : fz (stL j) = j := by
          rcases (show j = 0 ∨ j = 1 ∨ j = 2 by omega) with rfl | rfl | rfl <;> decide
        have hst : (stL j).set j true = stL (j + 1) := by
          rcases (show j = 0 ∨ j = 1 ∨ j = 2 by omega) with rfl | rfl | rfl <;> decide
        have hln : j ≠ (stL j).length := by
          rcases (show j = 0 ∨ j = 1 ∨ j = 2 by omega) with rfl | rfl | rfl <;> decide
        have HTk := Aside0.mk (sl_take j (stL (j + 1)) HS.out hfz hln hst HB.out.size (Tab.later HT HB.out))
        have c1 : decide ((j : Int) < 3) = true := decide_eq_true (by omega)
        have c2 : decide (j < 3) = true := decide_eq_true hlt
        have c3 : ((j : Int) != (j : Int)) = false := bne_self_eq_false _
        have HW : Aside0 (wrap64 ((j : Int) + 1) = ((j + 1 : Nat) : Int)) := ⟨by unfold wrap64; omega⟩
        clear hfz hst hln
        go_wp2_with (go_at_call 8; refine HTk.out.mono ?_; rintro e w3 ⟨rfl, ws3, hs, hb⟩; have n1 := Aside0.mk hs; have n2 := Aside0.mk (HB.out.trans hb); clear HS HB hs hb HTk; have HS := n1; have HB := n2; clear n1 n2)
        go_roundg gk
        case measure => omega
        case rel => exact ⟨j + 1, ws3, by omega, by omega, rfl, HS, HB⟩
      · have e0 : j = 3 := by omega
        subst e0
        go_wp2_with (first
          | (go_at_call 8; (with_reducible refine (slots_Slots_Take.full HS.out (by decide) (Tab.later HT HB.out)).mono ?_); rintro e w3 ⟨rfl, ⟨nd, rfl⟩⟩; have n1 := Aside0.mk (HS.out.below (pw_below_drewN (Below.refl _ _) nd)); have n2 := Aside0.mk (pw_below_drewN HB.out nd); clear HS HB; have HS1 := n1; have HB := n2; clear n1 n2)
          | (go_at_call 9; refine (show Calls Tryd.prog 9 #[.pointer (some ⟨g, 0, none⟩), .int .i64 1] _ _ from slots_Slots_Give.own 1 HS1.out (by decide)).mono ?_; rintro e w4 ⟨rfl, ws4, hs, _, hb⟩; have HS2 := Aside0.mk hs; have n2 := Aside0.mk (HB.out.trans hb); clear HS1 HB hs hb; have HB := n2; clear n2)
          | (go_at_call 8; refine (sl_take 1 (stL 3) HS2.out (by decide) (by decide) (by decide) HB.out.size (Tab.later HT HB.out)).mono ?_; rintro e w5 ⟨rfl, ws5, hs, hb⟩; have HS3 := Aside0.mk hs; have n2 := Aside0.mk (HB.out.trans hb); clear HS2 HB hs hb; have HB := n2; clear n2)
          | (go_at_call 12; refine (slots_Slots_Len.own HS3.out).mono ?_; rintro e w6 ⟨rfl, rfl⟩))
        go_ret
        exact ⟨rfl, HB.out⟩
end Go.Proofs.YtmfacoccojenlaaDoor.F
end
section
namespace Go.Proofs.YtmfacoccojenlaaDoor.N
open Go Go.RowKit Go.Proofs.YtmfacoccojenlaaDoor.F Go.Proofs.YtmfacoccojenlaaDoorW.PrintWords Go.Proofs.YtmfacoccojenlaaDoorW.PrintLast Go.Proofs.YtmfacoccojenlaaDoorW.PrintMore
set_option linter.unusedSimpArgs false
set_option linter.unusedVariables false
def bitsL (w : Nat) : List Nat := (List.range 64).filter fun j => w.testBit j
def wordI (k w : Nat) : List Int := (bitsL w).map fun (j : Nat) => 64 * (k : Int) + (j : Int)
def seqI (k : Nat) : List Nat → List Int
  | [] => []
  | w :: ws => wordI k w ++ seqI (k + 1) ws
theorem filter_first (n t : Nat) (p : Nat → Bool) (ht : t < n) (h1 : ∀ j, j < t → p j = false) (h2 : p t = true) : (List.range n).filter p = t :: (List.range n).filter fun j => p j && !decide (j = t) := by
  obtain ⟨m, rfl⟩ : ∃ m, n = t + (1 + m) := ⟨n - t - 1, by omega⟩
  rw [List.range_add, List.range_add, List.filter_append, List.filter_append, List.map_append, List.filter_append, List.filter_append]
  have e1 : (List.range t).filter p = [] := List.filter_eq_nil_iff.2 (fun j hj => by rw [h1 j (List.mem_range.1 hj)]; decide)
  have e2 : ((List.range t).filter fun j => p j && !decide (j = t)) = [] := List.filter_eq_nil_iff.2 (fun j hj => by rw [h1 j (List.mem_range.1 hj), Bool.false_and]; decide)
  have e3 : ((List.range 1).map (t + ·)).filter p = [t] := by simp [List.range_succ, h2]
  have e4 : (((List.range 1).map (t + ·)).filter fun j => p j && !decide (j = t)) = [] := by simp [List.range_succ]
  rw [e1, e2, e3, e4, List.nil_append, List.nil_append, List.nil_append, List.singleton_append]
  congr 1
  apply List.filter_congr
  intro j hj
  simp only [List.map_map, List.mem_map] at hj
  obtain ⟨a, _, rfl⟩ := hj
  have : decide (t + (1 + a) = t) = false := decide_eq_false (by omega)
  simp only [Function.comp, this, Bool.not_false, Bool.and_true]
theorem bits_next (w : Nat) (h0 : w ≠ 0) (h : w < 18446744073709551616) : bitsL w = Go.Lib.ctz 64 w :: bitsL (w &&& (w - 1)) ∧ Go.Lib.ctz 64 w < 64 ∧ w &&& (w - 1) < w := by
  obtain ⟨c1, c2, c3⟩ := ctz_is w 0 h0 h
  have hs := Go.Lib.ctzFrom_spec 64 w (by omega) (by simpa using h)
  have hu : Go.Lib.ctz 64 w = Go.Lib.ctzFrom 64 w := by unfold Go.Lib.ctz; rw [if_neg h0]
  rw [hu] at c1 c2 c3 ⊢
  obtain ⟨m, hm, _⟩ := hs
  generalize Go.Lib.ctzFrom 64 w = t at hm c1 c2 c3
  have hp : 0 < 2 ^ t := Nat.two_pow_pos t
  have w0 : w = 2 ^ (t + 1) * m + 2 ^ t := by rw [hm, Nat.pow_succ, Nat.mul_add, Nat.mul_assoc, Nat.mul_one]
  have w1 : w - 1 = 2 ^ (t + 1) * m + (2 ^ t - 1) := by omega
  have hb0 : 2 ^ t < 2 ^ (t + 1) := by rw [Nat.pow_succ]; omega
  have hb : ∀ j, (w &&& (w - 1)).testBit j = (w.testBit j && !decide (j = t)) := by
    intro j
    rw [Nat.testBit_and, w1]
    rw [Nat.testBit_two_pow_mul_add m (by omega : 2 ^ t - 1 < 2 ^ (t + 1))]
    rw [w0, Nat.testBit_two_pow_mul_add m hb0]
    by_cases hj : j < t + 1
    · rw [if_pos hj, if_pos hj, Nat.testBit_two_pow, Nat.testBit_two_pow_sub_one]
      by_cases e : j = t
      · subst e; simp
      · have : decide (t = j) = false := decide_eq_false (fun q => e q.symm)
        simp [this]
    · rw [if_neg hj, if_neg hj]
      have : decide (j = t) = false := decide_eq_false (by omega)
      simp [this]
  refine ⟨?_, c1, ?_⟩
  · unfold bitsL
    rw [filter_first 64 t _ c1 c3 c2]
    congr 1
    exact List.filter_congr (fun j _ => (hb j).symm)
  · have h2 : w &&& (w - 1) ≤ w - 1 := Nat.and_le_right
    omega
theorem bits_zero : bitsL 0 = [] := by
  unfold bitsL
  exact List.filter_eq_nil_iff.2 (fun j _ => by rw [Nat.zero_testBit]; decide)
theorem word_next (k w : Nat) (h0 : w ≠ 0) (h : w < 18446744073709551616) : wordI k w = (64 * (k : Int) + (Go.Lib.ctz 64 w : Nat)) :: wordI k (w &&& (w - 1)) := by
  unfold wordI
  rw [(bits_next w h0 h).1, List.map_cons]
theorem word_zero (k : Nat) : wordI k 0 = [] := by unfold wordI; rw [bits_zero]; rfl
theorem seq_at : ∀ (ws : List Nat) (k : Nat), k < ws.length → ∀ b, seqI (b + k) (ws.drop k) = wordI (b + k) (ws.getD k 0) ++ seqI (b + (k + 1)) (ws.drop (k + 1))
  | [], k, h, _ => absurd h (Nat.not_lt_zero _)
  | w :: ws, 0, _, b => by simp [seqI]
  | w :: ws, k + 1, h, b => by
    have := seq_at ws k (by simpa using h) (b + 1)
    rw [show b + (k + 1) = b + 1 + k from by omega, show b + (k + 1 + 1) = b + 1 + (k + 1) from by omega]
    simpa using this
def idx (l : List Bool) : List Int := ((List.range l.length).filter fun i => l.getD i false).map fun (i : Nat) => (i : Int)
end Go.Proofs.YtmfacoccojenlaaDoor.N
end
