-- Cut for this claim by a program (wip/prune.py) out of the texts that its bench laid or wrote
import Derived.Test.YtmfacoccojenlaaDoorSlots2
namespace Go.Proofs.YtmfacoccojenlaaDoor.F
open Go.RowKit Go.Proofs.YtmfacoccojenlaaDoorW.PrintWords Go.Proofs.YtmfacoccojenlaaDoorW.PrintLast Go.Proofs.YtmfacoccojenlaaDoorW.PrintMore
set_option linter.unusedSimpArgs false
set_option linter.unusedVariables false
open Go.Proofs.YtmfacoccojenlaaDoor.N (ofN Bits fz cnt)
def stL (j : Nat) : List Bool := List.replicate j true ++ List.replicate (3 - j) false
theorem sl_take {base : Nat} {w : World} {g : Nat} {v : Value} {ws : List Nat} {l : List Bool} (p : Nat) (l2 : List Bool) (h : Sl base w g v ws l) (hp : fz l = p) (hl : p ≠ l.length) (h2 : l.set p true = l2) (hb : base ≤ w.heap.size) (HT : Aside0 (Tab w)) :
    Calls Tryd.prog 8 #[.pointer (some ⟨g, 0, none⟩)] w fun e w' => e = .returned (.tuple #[.int .i64 (p : Int), .int .i64 0]) ∧ ∃ ws', Sl base w' g v ws' l2 ∧ Below base w w' := by
  subst hp h2
  exact (slots_Slots_Take.own h hl HT).mono fun e w' ⟨he, ws', hs, _, hb⟩ => ⟨he, ws', hs, hb⟩
set_option maxHeartbeats 8000000 in
set_option maxRecDepth 100000 in
theorem tombolalaw11_alive.own (w : World) (HT : Aside0 (Tab w)) : Calls Tryd.prog 5 #[] w fun e w' => e = .returned (.bool true) ∧ Below w.heap.size w w' := by
  have hu := Tryd.underlying43
  have HN := Aside0.mk (show Calls Tryd.prog 6 #[.int .i64 3] w _ from slots_New.own 3 (by decide) (by decide) w)
  go_enter Tryd.func5, Tryd.ntmps5
  go_wp2_with (first
    | (go_at_call 6; (with_reducible refine HN.out.mono ?_); rintro e w1 ⟨g, v, rfl, hs, hb⟩; have HS := Aside0.mk hs; have HB := Aside0.mk hb; clear hs hb)
    | (go_at_call 6; (with_reducible refine (slots_New.no 0 (.inl (by decide)) _).mono ?_); rintro e w2 ⟨rfl, rfl⟩))
  go_loopg [5] 4 (fun kq v5 W => ∃ (j : Nat) (ws : List Nat), j ≤ 3 ∧ 3 - j < kq ∧ v5 = .int .i64 (j : Int) ∧ Aside0 (Sl w.heap.size W g v ws (stL j)) ∧ Aside0 (Below w.heap.size w W))
  case atStart => exact ⟨0, _, by decide, by decide, rfl, HS, HB⟩
  case round =>
    clear HS HB
    obtain ⟨j, ws, hj0, hj1, rfl, HS, HB⟩ := hrel
    cases gk with
    | zero => exact absurd hj1 (by omega)
    | succ gk =>
      by_cases hlt : j < 3
      · have hfz : fz (stL j) = j := by
          rcases (show j = 0 ∨ j = 1 ∨ j = 2 by omega) with rfl | rfl | rfl <;> decide
        have hst : (stL j).set j true = stL (j + 1) := by
          rcases (show j = 0 ∨ j = 1 ∨ j = 2 by omega) with rfl | rfl | rfl <;> decide
        have hln : j ≠ (stL j).length := by
          rcases (show j = 0 ∨ j = 1 ∨ j = 2 by omega) with rfl | rfl | rfl <;> decide
        have HTk := Aside0.mk (sl_take j (stL (j + 1)) HS.out hfz hln hst HB.out.size (Tab.later HT HB.out))
        have c1 : decide ((j : Int) < 3) = true := decide_eq_true (by omega)
        have c2 : decide (j < 3) = true := decide_eq_true hlt
        have c3 : ((j : Int) != (j : Int)) = false := bne_self_eq_false _
        have HW : Aside0 (wrap64 ((j : Int) + 1) = ((j + 1 : Nat) : Int)) := ⟨by unfold wrap64; omega⟩
        clear hfz hst hln
        go_wp2_with (go_at_call 8; refine HTk.out.mono ?_; rintro e w3 ⟨rfl, ws3, hs, hb⟩; have n1 := Aside0.mk hs; have n2 := Aside0.mk (HB.out.trans hb); clear HS HB hs hb HTk; have HS := n1; have HB := n2; clear n1 n2)
        go_roundg gk
        case measure => omega
        case rel => exact ⟨j + 1, ws3, by omega, by omega, rfl, HS, HB⟩
      · have e0 : j = 3 := by omega
        subst e0
        go_wp2_with (first
          | (go_at_call 8; (with_reducible refine (slots_Slots_Take.full HS.out (by decide) (Tab.later HT HB.out)).mono ?_); rintro e w3 ⟨rfl, ⟨nd, rfl⟩⟩; have n1 := Aside0.mk (HS.out.below (pw_below_drewN (Below.refl _ _) nd)); have n2 := Aside0.mk (pw_below_drewN HB.out nd); clear HS HB; have HS1 := n1; have HB := n2; clear n1 n2)
          | (go_at_call 9; refine (show Calls Tryd.prog 9 #[.pointer (some ⟨g, 0, none⟩), .int .i64 1] _ _ from slots_Slots_Give.own 1 HS1.out (by decide)).mono ?_; rintro e w4 ⟨rfl, ws4, hs, _, hb⟩; have HS2 := Aside0.mk hs; have n2 := Aside0.mk (HB.out.trans hb); clear HS1 HB hs hb; have HB := n2; clear n2)
          | (go_at_call 8; refine (sl_take 1 (stL 3) HS2.out (by decide) (by decide) (by decide) HB.out.size (Tab.later HT HB.out)).mono ?_; rintro e w5 ⟨rfl, ws5, hs, hb⟩; have HS3 := Aside0.mk hs; have n2 := Aside0.mk (HB.out.trans hb); clear HS2 HB hs hb; have HB := n2; clear n2)
          | (go_at_call 12; refine (slots_Slots_Len.own HS3.out).mono ?_; rintro e w6 ⟨rfl, rfl⟩))
        go_ret
        exact ⟨rfl, HB.out⟩
end Go.Proofs.YtmfacoccojenlaaDoor.F
