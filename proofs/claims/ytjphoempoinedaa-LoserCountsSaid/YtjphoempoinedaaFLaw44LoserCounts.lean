-- Contracts of functions, laid by a program of this session (wip/xp/xp.py)
import Derived.Test.YtjphoempoinedaaF0
import Derived.Test.YtjphoempoinedaaFLoserA
import Derived.Test.YtjphoempoinedaaFRef07A
import Derived.Test.YtjphoempoinedaaFLaw44alive
namespace Go.Proofs.Ytjphoempoinedaa.F
open Go.RowKit Go.Proofs.YtjphoempoinedaaW.PrintWords Go.Proofs.YtjphoempoinedaaW.PrintLast Go.Proofs.YtjphoempoinedaaW.PrintMore
attribute [local go_sem] max2_int min2_int max_two min_two max_three min_three max_four min_four   -- for this text's walks alone
set_option linter.unusedVariables false
set_option linter.unusedSimpArgs false

/-! ### tombolalaw44_LoserCounts: function 8 -/
mutual
def tombolalaw44_LoserCounts.j0 : Nat → List (S79) → List Int → Int → Bool → Option (Bool)
 | 0, _, _, _, _ => none
 | k + 1, x0, x3, x4, x32 => if x32 = true then ((tombolalaw44_alive.f).bind fun t107 => (some t107)) else (if 0 ≤ (x0.length : Int) then (if ((x0.length : Int) : Int).toNat ≤ 35184372088832 then (tombolalaw44_LoserCounts.l0 k x0 x3 x4 (List.replicate ((x0.length : Int) : Int).toNat 0) 0) else (none)) else (none))
def tombolalaw44_LoserCounts.l0 : Nat → List (S79) → List Int → Int → List Int → Int → Option (Bool)
 | 0, _, _, _, _, _ => none
 | k + 1, x0, x3, x4, x6, x7 => if x7 < x4 then ((loser_At.f k x0 x7).bind fun bt111 => (if bt111.2 = 0 then (if bt111.1 < 0 then (some false) else (if bt111.1 ≥ (x0.length : Int) then (some false) else (if 0 ≤ bt111.1 then (if bt111.1 < (x0.length : Int) then (if ((rd_T79 x0 bt111.1).f1) = 0 then (some false) else (if bt111.1 < (x6.length : Int) then (tombolalaw44_LoserCounts.l0 k x0 x3 x4 (x6.set (bt111.1 : Int).toNat (IntKind.u64.wrap ((rd x6 bt111.1) + 1))) (IntKind.u64.wrap (x7 + 1))) else (none))) else (none)) else (none)))) else (some false))) else ((tombolaref07_Words.f k x6 x3).bind fun t116 => (if t116 = true then ((tombolalaw44_alive.f).bind fun t117 => (some t117)) else (some false)))
end
def tombolalaw44_LoserCounts.f (k : Nat) (l0 : List (S79)) : Option (Bool) := if (l0.length : Int) > 20 then ((tombolalaw44_alive.f).bind fun t101 => (some t101)) else ((loser_Risks.f k l0).bind fun bt102 => (if bt102.2.2 = 0 then (if bt102.2.1 > 500 then (tombolalaw44_LoserCounts.j0 k l0 bt102.1 bt102.2.1 true) else (tombolalaw44_LoserCounts.j0 k l0 bt102.1 bt102.2.1 ((bt102.1.length : Int) != (l0.length : Int)))) else (tombolalaw44_LoserCounts.j0 k l0 bt102.1 bt102.2.1 true)))
theorem tombolalaw44_LoserCounts.mono_l : ∀ k, (∀ y0 y1 y2 y3, LeO (tombolalaw44_LoserCounts.j0 k y0 y1 y2 y3) (tombolalaw44_LoserCounts.j0 (k + 1) y0 y1 y2 y3)) ∧ (∀ y0 y1 y2 y3 y4, LeO (tombolalaw44_LoserCounts.l0 k y0 y1 y2 y3 y4) (tombolalaw44_LoserCounts.l0 (k + 1) y0 y1 y2 y3 y4))
 | 0 => ⟨fun _ _ _ _ r h => by simp [tombolalaw44_LoserCounts.j0] at h, fun _ _ _ _ _ r h => by simp [tombolalaw44_LoserCounts.l0] at h⟩
 | k + 1 => by
  obtain ⟨ih0, ih1⟩ := tombolalaw44_LoserCounts.mono_l k
  refine ⟨?_, ?_⟩
  ·intro y0 y1 y2 y3
   unfold tombolalaw44_LoserCounts.j0
   repeat' first
   | (with_reducible exact ih0 _ _ _ _)
   | (with_reducible exact ih1 _ _ _ _ _)
   | (with_reducible exact loser_At.mono _ _ _)
   | (with_reducible exact loser_Risks.mono _ _)
   | (with_reducible exact tombolaref07_Words.mono _ _ _)
   | (with_reducible exact LeO.refl _)
   | (with_reducible exact LeO.none _)
   | (with_reducible refine LeO.ite ?_ ?_)
   | (with_reducible refine LeO.bind ?_ (fun _ => ?_))
   | exact ih0 _ _ _ _
   | exact ih1 _ _ _ _ _
   | exact loser_At.mono _ _ _
   | exact loser_Risks.mono _ _
   | exact tombolaref07_Words.mono _ _ _
   | exact LeO.none _
   | refine LeO.ite ?_ ?_
   | refine LeO.bind ?_ (fun _ => ?_)
  ·intro y0 y1 y2 y3 y4
   unfold tombolalaw44_LoserCounts.l0
   repeat' first
   | (with_reducible exact ih0 _ _ _ _)
   | (with_reducible exact ih1 _ _ _ _ _)
   | (with_reducible exact loser_At.mono _ _ _)
   | (with_reducible exact loser_Risks.mono _ _)
   | (with_reducible exact tombolaref07_Words.mono _ _ _)
   | (with_reducible exact LeO.refl _)
   | (with_reducible exact LeO.none _)
   | (with_reducible refine LeO.ite ?_ ?_)
   | (with_reducible refine LeO.bind ?_ (fun _ => ?_))
   | exact ih0 _ _ _ _
   | exact ih1 _ _ _ _ _
   | exact loser_At.mono _ _ _
   | exact loser_Risks.mono _ _
   | exact tombolaref07_Words.mono _ _ _
   | exact LeO.none _
   | refine LeO.ite ?_ ?_
   | refine LeO.bind ?_ (fun _ => ?_)
theorem tombolalaw44_LoserCounts.mono : ∀ a0 k, LeO (tombolalaw44_LoserCounts.f k a0) (tombolalaw44_LoserCounts.f (k + 1) a0) := by
 intro a0 k
 obtain ⟨ih0, ih1⟩ := tombolalaw44_LoserCounts.mono_l k
 unfold tombolalaw44_LoserCounts.f
 repeat' first
   | (with_reducible exact ih0 _ _ _ _)
   | (with_reducible exact ih1 _ _ _ _ _)
   | (with_reducible exact loser_At.mono _ _ _)
   | (with_reducible exact loser_Risks.mono _ _)
   | (with_reducible exact tombolaref07_Words.mono _ _ _)
   | (with_reducible exact LeO.refl _)
   | (with_reducible exact LeO.none _)
   | (with_reducible refine LeO.ite ?_ ?_)
   | (with_reducible refine LeO.bind ?_ (fun _ => ?_))
   | exact ih0 _ _ _ _
   | exact ih1 _ _ _ _ _
   | exact loser_At.mono _ _ _
   | exact loser_Risks.mono _ _
   | exact tombolaref07_Words.mono _ _ _
   | exact LeO.none _
   | refine LeO.ite ?_ ?_
   | refine LeO.bind ?_ (fun _ => ?_)
set_option maxHeartbeats 8000000 in
set_option maxRecDepth 100000 in
theorem tombolalaw44_LoserCounts.calls (k : Nat) (A0 : Option Addr) (c0 : Nat) (l0 : List (S79)) (r : Bool) (ht_ : Aside0 (r = true)) (w : World) (hr0 : Kd.C k79 w A0 l0.length l0) (hc0 : l0.length ≤ c0) (h : tombolalaw44_LoserCounts.f k l0 = some r) :
  Calls Try.prog 8 #[.slice A0 l0.length c0] w fun e w' => e = .returned (.bool r) ∧ Below w.heap.size w w' := by
 have HR0 := Aside0.mk hr0
 have HC0 := Aside0.mk hc0
 clear hr0 hc0
 have HB := Aside0.mk (Below.refl w.heap.size w)
 have H : (if (l0.length : Int) > 20 then ((tombolalaw44_alive.f).bind fun t101 => (some t101)) else ((loser_Risks.f k l0).bind fun bt102 => (if bt102.2.2 = 0 then (if bt102.2.1 > 500 then (tombolalaw44_LoserCounts.j0 k l0 bt102.1 bt102.2.1 true) else (tombolalaw44_LoserCounts.j0 k l0 bt102.1 bt102.2.1 ((bt102.1.length : Int) != (l0.length : Int)))) else (tombolalaw44_LoserCounts.j0 k l0 bt102.1 bt102.2.1 true)))) = some r := h
 clear h
 by_cases c2 : (l0.length : Int) > 20
 ·rw [if_pos c2] at H
  have c2b0 : decide (20 < (l0.length : Int)) = true := decide_eq_true c2
  have c2b1 : decide (20 < l0.length) = true := decide_eq_true (by omega)
  clear c2
  replace H := Option.bind_eq_some_iff.mp H
  obtain ⟨t101, A30, H⟩ := H
  replace H : (some t101) = some r := H
  have A3 := Aside0.mk A30
  clear A30
  obtain rfl := Option.some.inj H
  go_enter Try.func8, Try.ntmps8
  go_wp2_with (first|((with_reducible refine gate_callee (f := 40) rfl ?_);refine goesL_ (some 13) rfl rfl Try.func40 (by kernel_rfl) rfl #[] rfl (by (try simp only [List.map_toArray, List.map_cons, List.map_nil]);first|done|rfl|(simp only [List.length_drop, List.length_take];rfl)) ?_;(with_reducible refine (tombolalaw44_alive.calls  t101 _ A3.out).mono ?_);rintro e w4 ⟨rfl, hb⟩;refine ⟨_, rfl, ?_⟩;have n0_ := Aside0.mk (below_step (by repeat (first|(with_reducible first|exact HB.out|apply below_alloc|apply pw_below_drewN|apply below_drew1)|exact HB.out)) hb);clear HB;have HB := n0_;clear n0_;(try clear hb);(try clear hb2);(try clear hk);(try clear hi)))
  go_ret
  exact ⟨by first|rfl|(simp [errW_none, errW_some] <;> rfl)|(simp [*, errW_none, errW_some] <;> rfl), by repeat (first|(with_reducible first|exact HB.out|apply below_alloc|apply pw_below_drewN|apply below_drew1)|exact HB.out)⟩
 ·rw [if_neg c2] at H
  have c2b0 : decide (20 < (l0.length : Int)) = false := decide_eq_false c2
  have c2b1 : decide (20 < l0.length) = false := decide_eq_false (by omega)
  clear c2
  replace H := Option.bind_eq_some_iff.mp H
  obtain ⟨⟨t102, t103, t104⟩, A50, H⟩ := H
  replace H : (if t104 = 0 then (if t103 > 500 then (tombolalaw44_LoserCounts.j0 k l0 t102 t103 true) else (tombolalaw44_LoserCounts.j0 k l0 t102 t103 ((t102.length : Int) != (l0.length : Int)))) else (tombolalaw44_LoserCounts.j0 k l0 t102 t103 true)) = some r := H
  have A5 := Aside0.mk A50
  clear A50
  have HC6 := Aside0.mk H
  clear H
  go_enter Try.func8, Try.ntmps8
  go_upto_region 4 with (first|((with_reducible refine gate_callee (f := 41) rfl ?_);refine goesL_ (some 16) rfl rfl Try.func41 (by kernel_rfl) rfl #[.slice A0 l0.length c0] rfl (by (try simp only [List.map_toArray, List.map_cons, List.map_nil]);first|done|rfl|(simp only [List.length_drop, List.length_take];rfl)) ?_;(with_reducible refine (loser_Risks.calls k _ _ l0 t102 t103 t104 _ ?side1 ?side2 A5.out).mono ?_);(case side1 => repeat (first|exact HR0.out|(with_reducible refine Kd.C_alloc ?_ _)|(with_reducible refine Kd.C_drewN ?_ _)|(with_reducible refine Kd.C_drew ?_)));(case side2 => exact HC0.out);rintro e w7 ⟨v105, rfl, ho0, hb⟩;refine ⟨_, rfl, ?_⟩;have n0_ := Aside0.mk (Kd.R_lower ho0 (below_size (by repeat (first|(with_reducible first|exact HB.out|apply below_alloc|apply pw_below_drewN|apply below_drew1)|exact HB.out))));have n1_ := Aside0.mk (below_step (by repeat (first|(with_reducible first|exact HB.out|apply below_alloc|apply pw_below_drewN|apply below_drew1)|exact HB.out)) hb);clear HB;have HO106 := n0_;have HB := n1_;clear n0_ n1_;(try clear hb);(try clear hb2);(try clear hk);(try clear hi);(try clear ho0)))
  (try simp only [Act.put, List.setIfInBounds_toArray, List.set_cons_zero, List.set_cons_succ])
  go_cut [32] (fun v32 wc => ∃ (kq : Nat) (x32_5 : Bool), v32 = .bool x32_5 ∧ Aside0 (tombolalaw44_LoserCounts.j0 kq l0 t102 t103 x32_5 = some r) ∧ Aside0 (kq ≤ k) ∧ Aside0 (Kd.R (Kd.int .u64) 22 wc w.heap.size (fun _ => True) v105 t102) ∧ Aside0 (Below w.heap.size w wc))
  case first =>
   have H := HC6.out
   clear HC6
   by_cases c8 : t104 = 0
   ·rw [if_pos c8] at H
    have c8b0 : (t104 == 0) = true := beq_iff_eq.mpr c8
    have c8b1 : (t104 != 0) = false := bne_eq_false_iff_eq.mpr c8
    clear c8
    (first|rw [c8b0]|rw [c8b1]|(simp only [i64_w, i32_w];rw [c8b0])|skip)
    by_cases c9 : t103 > 500
    ·rw [if_pos c9] at H
     have c9b0 : decide (500 < t103) = true := decide_eq_true c9
     clear c9
     have H' := Aside0.mk H
     clear H
     go_wp2
     go_meet
     case rel => exact ⟨_, (true), (by first|rfl|(simp;done)|(simp [*];done)), H', ⟨by first|omega|exact Nat.le_refl _⟩, ⟨by (with_reducible repeat (first|apply Kd.R_alloc|apply Kd.R_drewN|apply Kd.R_drew));exact HO106.out⟩, ⟨by repeat (first|(with_reducible first|exact HB.out|apply below_alloc|apply pw_below_drewN|apply below_drew1)|exact HB.out)⟩⟩
    ·rw [if_neg c9] at H
     have c9b0 : decide (500 < t103) = false := decide_eq_false c9
     clear c9
     have H' := Aside0.mk H
     clear H
     obtain ⟨Ao10, co10, eo10⟩ := Kd.R_slice HO106.out
     subst eo10
     go_wp2
     go_meet
     case rel => exact ⟨_, (((t102.length : Int) != (l0.length : Int))), (by first|rfl|(simp;done)|(simp [*];done)), H', ⟨by first|omega|exact Nat.le_refl _⟩, ⟨by (with_reducible repeat (first|apply Kd.R_alloc|apply Kd.R_drewN|apply Kd.R_drew));exact HO106.out⟩, ⟨by repeat (first|(with_reducible first|exact HB.out|apply below_alloc|apply pw_below_drewN|apply below_drew1)|exact HB.out)⟩⟩
   ·rw [if_neg c8] at H
    have c8b0 : (t104 == 0) = false := beq_eq_false_iff_ne.mpr c8
    have c8b1 : (t104 != 0) = true := bne_iff_ne.mpr c8
    (first|rw [c8b0]|rw [c8b1]|(simp only [i64_w, i32_w];rw [c8b0])|skip)
    have H' := Aside0.mk H
    clear H
    go_wp2
    go_meet
    case rel => exact ⟨_, (true), (by first|rfl|(simp;done)|(simp [*];done)), H', ⟨by first|omega|exact Nat.le_refl _⟩, ⟨by (with_reducible repeat (first|apply Kd.R_alloc|apply Kd.R_drewN|apply Kd.R_drew));exact HO106.out⟩, ⟨by repeat (first|(with_reducible first|exact HB.out|apply below_alloc|apply pw_below_drewN|apply below_drew1)|exact HB.out)⟩⟩
  case rest =>
   clear HC6
   try clear c2
   try clear c2b0
   try clear c2b1
   try clear p2
   try clear c4
   try clear c8
   try clear c8b0
   try clear c8b1
   try clear c9
   try clear c9b0
   obtain ⟨kq, x32_5, rfl, HA, HJ5, HO_3, HB⟩ := hcut
   cases kq with
   | zero => exact absurd HA.out (by simp [tombolalaw44_LoserCounts.j0])
   | succ kj5 =>
    have H := HA.out
    clear HA
    simp only [tombolalaw44_LoserCounts.j0] at H
    by_cases c11 : x32_5 = true
    ·subst c11
     have H1 : ((tombolalaw44_alive.f).bind fun t107 => (some t107)) = some r := by rw [if_pos rfl] at H;exact H
     clear H
     have H := H1
     clear H1
     replace H := Option.bind_eq_some_iff.mp H
     obtain ⟨t107, A120, H⟩ := H
     replace H : (some t107) = some r := H
     have A12 := Aside0.mk A120
     clear A120
     obtain rfl := Option.some.inj H
     go_wp2_with (first|((with_reducible refine gate_callee (f := 40) rfl ?_);refine goesL_ (some 33) rfl rfl Try.func40 (by kernel_rfl) rfl #[] rfl (by (try simp only [List.map_toArray, List.map_cons, List.map_nil]);first|done|rfl|(simp only [List.length_drop, List.length_take];rfl)) ?_;(with_reducible refine (tombolalaw44_alive.calls  t107 _ A12.out).mono ?_);rintro e w13 ⟨rfl, hb⟩;refine ⟨_, rfl, ?_⟩;have n0_ := Aside0.mk (Kd.R_below (by (with_reducible repeat (first|apply Kd.R_alloc|apply Kd.R_drewN|apply Kd.R_drew));exact HO_3.out) hb);have n1_ := Aside0.mk (below_step (by repeat (first|(with_reducible first|exact HB.out|apply below_alloc|apply pw_below_drewN|apply below_drew1)|exact HB.out)) hb);clear HO_3;clear HB;have HO_3 := n0_;have HB := n1_;clear n0_ n1_;(try clear hb);(try clear hb2);(try clear hk);(try clear hi)))
     go_ret
     exact ⟨by first|rfl|(simp [errW_none, errW_some] <;> rfl)|(simp [*, errW_none, errW_some] <;> rfl), by repeat (first|(with_reducible first|exact HB.out|apply below_alloc|apply pw_below_drewN|apply below_drew1)|exact HB.out)⟩
    ·replace c11 := Bool.eq_false_iff.mpr c11
     subst c11
     have H1 : (if 0 ≤ (l0.length : Int) then (if ((l0.length : Int) : Int).toNat ≤ 35184372088832 then (tombolalaw44_LoserCounts.l0 kj5 l0 t102 t103 (List.replicate ((l0.length : Int) : Int).toNat 0) 0) else (none)) else (none)) = some r := by rw [if_neg (show ¬ (false = true) by decide)] at H;exact H
     clear H
     have H := H1
     clear H1
     by_cases c14 : 0 ≤ (l0.length : Int)
     ·rw [if_pos c14] at H
      have c14b0 := eq_true c14
      have c14b1 : decide (0 ≤ (l0.length : Int)) = true := decide_eq_true c14
      clear c14
      by_cases c15 : ((l0.length : Int) : Int).toNat ≤ 35184372088832
      ·rw [if_pos c15] at H
       have c15b0 := eq_true c15
       have c15b1 : decide (((l0.length : Int) : Int).toNat ≤ 35184372088832) = true := decide_eq_true c15
       clear c15
       obtain ⟨y108, hy108⟩ : ∃ y_ : List Int, y_ = (List.replicate ((l0.length : Int) : Int).toNat 0) := ⟨_, rfl⟩
       replace H : (tombolalaw44_LoserCounts.l0 kj5 l0 t102 t103 y108 0) = some r := by first|(rw [hy108];with_reducible exact H)|(have H2_ := (Option.bind_some _ _).symm.trans H;rw [hy108];with_reducible exact H2_)|(have H2_ := (Option.bind_some _ _).symm.trans H;with_reducible exact H2_)|with_reducible exact H|(rw [hy108];exact H)|exact H
       have Ny108 := Aside0.mk hy108
       clear hy108
       have H' := Aside0.mk H
       clear H
       go_wp2_with (first|((with_reducible refine gate_dst (N := 36) rfl ?_);(try (refine gate_guard (by rfl) ?_;dsimp only));refine Kd.R_make (Kd.int .u64) _ 22 rfl (N := 36) rfl 39 _ _ rfl (l0.length : Int) rfl rfl Try.underlying39 (.int .u64 0) 8 info22 rfl (by decide) (by omega) 0 (ok := fun _ => True) (okp := fun _ => True) rfl (fun _ hk => hk) trivial (of_decide_eq_true (by first|(with_reducible assumption)|assumption)) (Nat.le_trans (Nat.mul_le_mul_right _ (of_decide_eq_true (by first|(with_reducible assumption)|assumption) : (l0.length : Int).toNat ≤ 35184372088832)) (by omega)) (Below.refl _ _) (Nat.le_refl _) ?_;intro v109 w16 ho17 hb hg_ hnew_;clear hg_ hnew_;(first|rw [← Ny108.out] at ho17|(simp only [Int.reduceToNat] at ho17;rw [← Ny108.out] at ho17));have n0_ := Aside0.mk (Kd.R_elder' (by (with_reducible repeat (first|apply Kd.R_alloc|apply Kd.R_drewN|apply Kd.R_drew));exact HO_3.out) (Kd.R_base ho17) hb);have n1_ := Aside0.mk (Kd.R_lower (Kd.R_new' ho17 (Kd.R_lt (by (with_reducible repeat (first|apply Kd.R_alloc|apply Kd.R_drewN|apply Kd.R_drew));exact HO_3.out))) (below_size (by repeat (first|(with_reducible first|exact HB.out|apply below_alloc|apply pw_below_drewN|apply below_drew1)|exact HB.out))));have n2_ := Aside0.mk (below_step (by repeat (first|(with_reducible first|exact HB.out|apply below_alloc|apply pw_below_drewN|apply below_drew1)|exact HB.out)) hb);clear HO_3;clear HB;have HO_3 := n0_;have HO110 := n1_;have HB := n2_;clear n0_ n1_ n2_;clear hb ho17))
       go_loopg [7] kj5 (fun kq v7 w' => ∃ (x6_2 : List Int) (x7_2 : Int), v7 = .int .u64 x7_2 ∧ Aside0 (tombolalaw44_LoserCounts.l0 kq l0 t102 t103 x6_2 x7_2 = some r) ∧ Aside0 (kq ≤ kj5) ∧ Aside0 (Kd.R (Kd.int .u64) 22 w' w.heap.size (fun k_ => some k_ ≠ (v109 : Value).ownBlock) v105 t102) ∧ Aside0 (Kd.R (Kd.int .u64) 22 w' w.heap.size (fun k_ => some k_ ≠ (v105 : Value).ownBlock) v109 x6_2) ∧ Aside0 (Below w.heap.size w w'))
       case atStart => exact ⟨(y108), (0), (by first|rfl|(simp;done)|(simp [*];done)), H', ⟨Nat.le_refl _⟩, ⟨by (with_reducible repeat (first|apply Kd.R_alloc|apply Kd.R_drewN|apply Kd.R_drew));exact Kd.R_mono HO_3.out (fun _ hk => hk.2)⟩, ⟨by (with_reducible repeat (first|apply Kd.R_alloc|apply Kd.R_drewN|apply Kd.R_drew));exact Kd.R_mono HO110.out (fun _ hk => hk.2)⟩, ⟨by repeat (first|(with_reducible first|exact HB.out|apply below_alloc|apply pw_below_drewN|apply below_drew1)|exact HB.out)⟩⟩
       case round =>
        clear H'
        try clear c1
        try clear c2
        try clear c2b0
        try clear c2b1
        try clear p2
        try clear c4
        try clear c8
        try clear c8b0
        try clear c8b1
        try clear c9
        try clear c9b0
        try clear c11
        try clear c14
        try clear c14b0
        try clear c14b1
        try clear c15
        try clear c15b0
        try clear c15b1
        try clear p2
        obtain ⟨x6_2, x7_2, rfl, HA, HK2, HO_3, HO_6, HB⟩ := hrel
        cases gk with
        | zero => exact absurd HA.out (by simp [tombolalaw44_LoserCounts.l0])
        | succ k2 =>
         have H := HA.out
         clear HA
         simp only [tombolalaw44_LoserCounts.l0] at H
         by_cases c18 : x7_2 < t103
         ·rw [if_pos c18] at H
          have c18b0 : decide (x7_2 < t103) = true := decide_eq_true c18
          clear c18
          replace H := Option.bind_eq_some_iff.mp H
          obtain ⟨⟨t111, t112⟩, A190, H⟩ := H
          replace H : (if t112 = 0 then (if t111 < 0 then (some false) else (if t111 ≥ (l0.length : Int) then (some false) else (if 0 ≤ t111 then (if t111 < (l0.length : Int) then (if ((rd_T79 l0 t111).f1) = 0 then (some false) else (if t111 < (x6_2.length : Int) then (tombolalaw44_LoserCounts.l0 k2 l0 t102 t103 (x6_2.set (t111 : Int).toNat (IntKind.u64.wrap ((rd x6_2 t111) + 1))) (IntKind.u64.wrap (x7_2 + 1))) else (none))) else (none)) else (none)))) else (some false)) = some r := H
          have A19 := Aside0.mk A190
          clear A190
          by_cases c20 : t112 = 0
          ·rw [if_pos c20] at H
           have c20b0 : (t112 == 0) = true := beq_iff_eq.mpr c20
           have c20b1 : (t112 != 0) = false := bne_eq_false_iff_eq.mpr c20
           clear c20
           by_cases c21 : t111 < 0
           ·rw [if_pos c21] at H
            have c21b0 : decide (t111 < 0) = true := decide_eq_true c21
            clear c21
            exact absurd ((Option.some.inj H).trans ht_.out) (by simp)
           ·rw [if_neg c21] at H
            have c21b0 : decide (t111 < 0) = false := decide_eq_false c21
            clear c21
            by_cases c22 : t111 ≥ (l0.length : Int)
            ·rw [if_pos c22] at H
             have c22b0 : decide ((l0.length : Int) ≤ t111) = true := decide_eq_true c22
             clear c22
             exact absurd ((Option.some.inj H).trans ht_.out) (by simp)
            ·rw [if_neg c22] at H
             have c22b0 : decide ((l0.length : Int) ≤ t111) = false := decide_eq_false c22
             clear c22
             by_cases c23 : 0 ≤ t111
             ·rw [if_pos c23] at H
              have c23b0 : decide (0 ≤ t111) = true := decide_eq_true c23
              clear c23
              by_cases c24 : t111 < (l0.length : Int)
              ·rw [if_pos c24] at H
               have c24b0 : decide (t111 < (l0.length : Int)) = true := decide_eq_true c24
               clear c24
               by_cases c25 : ((rd_T79 l0 t111).f1) = 0
               ·rw [if_pos c25] at H
                have c25b0 : (((rd_T79 l0 t111).f1) == 0) = true := beq_iff_eq.mpr c25
                have c25b1 : (((rd_T79 l0 t111).f1) != 0) = false := bne_eq_false_iff_eq.mpr c25
                clear c25
                exact absurd ((Option.some.inj H).trans ht_.out) (by simp)
               ·rw [if_neg c25] at H
                have c25b0 : (((rd_T79 l0 t111).f1) == 0) = false := beq_eq_false_iff_ne.mpr c25
                have c25b1 : (((rd_T79 l0 t111).f1) != 0) = true := bne_iff_ne.mpr c25
                by_cases c26 : t111 < (x6_2.length : Int)
                ·rw [if_pos c26] at H
                 have c26b0 : decide (t111 < (x6_2.length : Int)) = true := decide_eq_true c26
                 clear c26
                 obtain ⟨y115, hy115⟩ : ∃ y_ : List Int, y_ = (x6_2.set (t111 : Int).toNat (IntKind.u64.wrap ((rd x6_2 t111) + 1))) := ⟨_, rfl⟩
                 replace H : (tombolalaw44_LoserCounts.l0 k2 l0 t102 t103 y115 (IntKind.u64.wrap (x7_2 + 1))) = some r := by first|(rw [hy115];with_reducible exact H)|(have H2_ := (Option.bind_some _ _).symm.trans H;rw [hy115];with_reducible exact H2_)|(have H2_ := (Option.bind_some _ _).symm.trans H;with_reducible exact H2_)|with_reducible exact H|(rw [hy115];exact H)|exact H
                 have Ny115 := Aside0.mk hy115
                 clear hy115
                 have H' := Aside0.mk H
                 clear H
                 go_wp2_with (first|((with_reducible refine gate_callee (f := 42) rfl ?_);refine goesL_ (some 45) rfl rfl Try.func42 (by kernel_rfl) rfl #[.slice A0 l0.length c0, .int .u64 x7_2] rfl (by (try simp only [List.map_toArray, List.map_cons, List.map_nil]);first|done|rfl|(simp only [List.length_drop, List.length_take];rfl)) ?_;(with_reducible refine (loser_At.calls k2 _ _ l0 x7_2 t111 t112 _ ?side1 ?side2 A19.out).mono ?_);(case side1 => repeat (first|exact (Kd.C_below HR0.out HB.out)|(with_reducible refine Kd.C_alloc ?_ _)|(with_reducible refine Kd.C_drewN ?_ _)|(with_reducible refine Kd.C_drew ?_)));(case side2 => exact HC0.out);rintro e w28 ⟨rfl, hb⟩;refine ⟨_, rfl, ?_⟩;have n0_ := Aside0.mk (Kd.R_below (by (with_reducible repeat (first|apply Kd.R_alloc|apply Kd.R_drewN|apply Kd.R_drew));exact HO_3.out) hb);have n1_ := Aside0.mk (Kd.R_below (by (with_reducible repeat (first|apply Kd.R_alloc|apply Kd.R_drewN|apply Kd.R_drew));exact HO_6.out) hb);have n2_ := Aside0.mk (below_step (by repeat (first|(with_reducible first|exact HB.out|apply below_alloc|apply pw_below_drewN|apply below_drew1)|exact HB.out)) hb);clear HO_3;clear HO_6;clear HB;have HO_3 := n0_;have HO_6 := n1_;have HB := n2_;clear n0_ n1_ n2_;(try clear hb);(try clear hb2);(try clear hk);(try clear hi);have p113 : 0 ≤ (t111 : Int) := of_decide_eq_true (by first|(with_reducible assumption)|assumption);have q113 : t111 < (l0.length : Int) := of_decide_eq_true (by first|(with_reducible assumption)|assumption);obtain ⟨ad113, e113, hx113_0, hx113_1⟩ := at_T79 HR0.out t111 p113 q113;cases e113;replace hx113_0 := (HB.out.cell (World.block_lt_of_cell? w _ hx113_0)).trans hx113_0;replace hx113_1 := (HB.out.cell (World.block_lt_of_cell? w _ hx113_1)).trans hx113_1;replace p113 := eq_true p113;replace q113 := eq_true q113;obtain ⟨Ao29, co29, eo29⟩ := Kd.R_slice HO_6.out;subst eo29;have p114 : 0 ≤ (t111 : Int) := of_decide_eq_true (by first|(with_reducible assumption)|assumption);have q114 : t111 < (x6_2.length : Int) := of_decide_eq_true (by first|(with_reducible assumption)|assumption);obtain ⟨ad114, e114, hx114_0⟩ := Kd.at_int (Kd.R_reads' HO_6.out).2.2 t111 p114 q114;cases e114;replace p114 := eq_true p114;replace q114 := eq_true q114;have p27 : 0 ≤ (t111 : Int) := of_decide_eq_true (by first|(with_reducible assumption)|assumption);have q27 : (t111 : Int) < ((x6_2.length : Int) : Int) := of_decide_eq_true (by first|(with_reducible assumption)|assumption);obtain ⟨go27, co27, eo27, gb27, gl27, cl27, HG27⟩ := Kd.R_form HO_6.out (by omega);(first|cases eo27|(injection eo27 with ea_ en_ ec_;(first|subst ea_|(injection ea_ with ea_;subst ea_));subst ec_;clear en_));have GB27 := Aside0.mk gb27;have GG27 := Aside0.mk HG27;clear gb27 gl27 HG27;(first|simp only [add_plain] at hx114_0|skip);obtain ⟨hx27_0, hf27_0⟩ := Kd.R_celln 0 HO_6.out (t111 : Int) p27 q27;replace p27 := eq_true p27;replace q27 := eq_true q27;obtain ⟨hy30_, hz30_⟩ := Kd.R_celln 0 HO_6.out (t111 : Int) (of_decide_eq_true (by first|(with_reducible assumption)|assumption)) (of_decide_eq_true (by first|(with_reducible assumption)|assumption));have HP30 := Kd.R_putg HO_6.out (t111 : Int) (IntKind.u64.wrap ((rd x6_2 t111) + 1)))|((with_reducible refine gate_store (t := 22) (p := 73) rfl ?_);refine store_event (t := 22) (p := 73) (v := ?vo_w31) (w1 := (w28.setCell ⟨go27, (t111 : Int).toNat, none⟩ (.int .u64 (IntKind.u64.wrap ((rd x6_2 t111) + 1))))) ?hg ?ho ?hn ?hr ?_;(case ho => rfl);(case hg => rfl);(case hn => rfl);(case hr => first|(go_simp;done)|(go_simp;rfl));intro w31 hw;have hg : w28.grownBy w31 (some go27) := (by rw [hw];exact HP30.2);have hp_ : Kd.R (Kd.int .u64) 22 w31 w.heap.size (fun k_ => some k_ ≠ (v105 : Value).ownBlock) (.slice (some ⟨go27, 0, none⟩) x6_2.length co29) y115 := (by rw [hw, Ny115.out];exact HP30.1);clear HP30;have n0_ := Aside0.mk (Kd.R_after (v := (.slice (some ⟨go27, 0, none⟩) x6_2.length co29)) (v1 := (.slice (some ⟨go27, 0, none⟩) x6_2.length co29)) (ok := (fun _ => True)) (by (with_reducible repeat (first|apply Kd.R_alloc|apply Kd.R_drewN|apply Kd.R_drew));exact Kd.R_mono HO_3.out (fun _ hk => ⟨trivial, hk⟩)) hg (.inl rfl));have n1_ := Aside0.mk (hp_);have n2_ := Aside0.mk ((by rw [hw];exact below_set (HB.out) GB27.out : Below w.heap.size w w31));clear HO_3;clear HO_6;clear HB;have HO_3 := n0_;have HO_6 := n1_;have HB := n2_;clear n0_ n1_ n2_;clear hg hw hp_))
                 go_roundg k2
                 case measure => have := HJ5.out;have := HK2.out;omega
                 case rel => exact ⟨(y115), (IntKind.u64.wrap (x7_2 + 1)), (by first|rfl|(simp;done)|(simp [*];done)), H', ⟨by have := HJ5.out;have := HK2.out;omega⟩, ⟨by (with_reducible repeat (first|apply Kd.R_alloc|apply Kd.R_drewN|apply Kd.R_drew));exact Kd.R_mono HO_3.out (fun _ hk => hk.2)⟩, ⟨by (with_reducible repeat (first|apply Kd.R_alloc|apply Kd.R_drewN|apply Kd.R_drew));exact HO_6.out⟩, ⟨by repeat (first|(with_reducible first|exact HB.out|apply below_alloc|apply pw_below_drewN|apply below_drew1)|exact HB.out)⟩⟩
                ·rw [if_neg c26] at H
                 exact absurd H (by simp)
              ·rw [if_neg c24] at H
               exact absurd H (by simp)
             ·rw [if_neg c23] at H
              exact absurd H (by simp)
          ·rw [if_neg c20] at H
           have c20b0 : (t112 == 0) = false := beq_eq_false_iff_ne.mpr c20
           have c20b1 : (t112 != 0) = true := bne_iff_ne.mpr c20
           exact absurd ((Option.some.inj H).trans ht_.out) (by simp)
         ·rw [if_neg c18] at H
          have c18b0 : decide (x7_2 < t103) = false := decide_eq_false c18
          clear c18
          replace H := Option.bind_eq_some_iff.mp H
          obtain ⟨t116, A320, H⟩ := H
          replace H : (if t116 = true then ((tombolalaw44_alive.f).bind fun t117 => (some t117)) else (some false)) = some r := H
          have A32 := Aside0.mk A320
          clear A320
          by_cases c33 : t116 = true
          ·subst c33
           have H1 : ((tombolalaw44_alive.f).bind fun t117 => (some t117)) = some r := by rw [if_pos rfl] at H;exact H
           clear H
           have H := H1
           clear H1
           replace H := Option.bind_eq_some_iff.mp H
           obtain ⟨t117, A340, H⟩ := H
           replace H : (some t117) = some r := H
           have A34 := Aside0.mk A340
           clear A340
           obtain rfl := Option.some.inj H
           obtain ⟨Ao35, co35, eo35⟩ := Kd.R_slice HO_6.out
           subst eo35
           obtain ⟨Ao36, co36, eo36⟩ := Kd.R_slice HO_3.out
           subst eo36
           go_wp2_with (first|((with_reducible refine gate_callee (f := 43) rfl ?_);refine goesL_ (some 76) rfl rfl Try.func43 (by kernel_rfl) rfl #[.slice Ao35 x6_2.length co35, .slice Ao36 t102.length co36] rfl (by (try simp only [List.map_toArray, List.map_cons, List.map_nil]);first|done|rfl|(simp only [List.length_drop, List.length_take];rfl)) ?_;(with_reducible refine (tombolaref07_Words.calls k2 _ _ x6_2 _ _ t102 true _ ?side1 ?side2 ?side3 ?side4 A32.out).mono ?_);(case side1 => repeat (first|exact (Kd.R_reads' HO_6.out).2.2|(with_reducible refine Kd.C_alloc ?_ _)|(with_reducible refine Kd.C_drewN ?_ _)|(with_reducible refine Kd.C_drew ?_)));(case side2 => exact (Kd.R_reads' HO_6.out).2.1);(case side3 => repeat (first|exact (Kd.R_reads' HO_3.out).2.2|(with_reducible refine Kd.C_alloc ?_ _)|(with_reducible refine Kd.C_drewN ?_ _)|(with_reducible refine Kd.C_drew ?_)));(case side4 => exact (Kd.R_reads' HO_3.out).2.1);rintro e w' ⟨rfl, ⟨nd, rfl⟩⟩;refine ⟨_, rfl, ?_⟩)|(go_at_call 40;(with_reducible refine (tombolalaw44_alive.calls  t117 _ A34.out).mono ?_);rintro e w37 ⟨rfl, hb⟩;have n0_ := Aside0.mk (Kd.R_below (by (with_reducible repeat (first|apply Kd.R_alloc|apply Kd.R_drewN|apply Kd.R_drew));exact HO_3.out) hb);have n1_ := Aside0.mk (Kd.R_below (by (with_reducible repeat (first|apply Kd.R_alloc|apply Kd.R_drewN|apply Kd.R_drew));exact HO_6.out) hb);have n2_ := Aside0.mk (below_step (by repeat (first|(with_reducible first|exact HB.out|apply below_alloc|apply pw_below_drewN|apply below_drew1)|exact HB.out)) hb);clear HO_3;clear HO_6;clear HB;have HO_3 := n0_;have HO_6 := n1_;have HB := n2_;clear n0_ n1_ n2_;(try clear hb);(try clear hb2);(try clear hk);(try clear hi)))
           go_ret
           exact ⟨by first|rfl|(simp [errW_none, errW_some] <;> rfl)|(simp [*, errW_none, errW_some] <;> rfl), by repeat (first|(with_reducible first|exact HB.out|apply below_alloc|apply pw_below_drewN|apply below_drew1)|exact HB.out)⟩
          ·replace c33 := Bool.eq_false_iff.mpr c33
           subst c33
           have H1 : (some false) = some r := by rw [if_neg (show ¬ (false = true) by decide)] at H;exact H
           clear H
           have H := H1
           clear H1
           exact absurd ((Option.some.inj H).trans ht_.out) (by simp)
      ·rw [if_neg c15] at H
       exact absurd H (by simp)
     ·rw [if_neg c14] at H
      exact absurd H (by simp)

end Go.Proofs.Ytjphoempoinedaa.F
