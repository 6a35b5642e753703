-- Contracts of functions, laid by a program of this session (wip/xp/xp.py)
import Derived.Test.YtogdooclldoomaaF0
import Derived.Test.YtogdooclldoomaaFSpanA
import Derived.Test.YtogdooclldoomaaFLaw09alive
namespace Go.Proofs.Ytogdooclldoomaa.F
open Go.RowKit Go.Proofs.YtogdooclldoomaaW.PrintWords Go.Proofs.YtogdooclldoomaaW.PrintLast Go.Proofs.YtogdooclldoomaaW.PrintMore
attribute [local go_sem] max2_int min2_int max_two min_two max_three min_three max_four min_four   -- for this text's walks alone
set_option linter.unusedVariables false
set_option linter.unusedSimpArgs false

/-! ### tombolalaw09_SpanShifts: function 4 -/
def tombolalaw09_SpanShifts.j0 : Nat → List Int → Int → Int → Int → Bool → Int → Bool → Option (Bool)
 | 0, _, _, _, _, _, _, _ => none
 | k + 1, x0, x1, x2, x7, x8, x9, x49 => if x49 = true then (if x7 = 0 then (if x8 = true then (some false) else ((tombolalaw09_alive.f k).bind fun t106 => (some t106))) else (some false)) else ((some (([] : List Int) : List Int)).bind fun y107 => (if y107.length + x0.length < 17592186044416 then ((some (y107 ++ x0 : List Int)).bind fun y110 => (if 0 ≤ x1 then (if x1 < (y110.length : Int) then ((some (y110.set (x1 : Int).toNat 0 : List Int)).bind fun y113 => ((span_Pick.f k y113 x7).bind fun bt114 => ((span_Total.f k y113).bind fun bt116 => (if x8 = true then (if bt114.2 = true then (if bt114.1 = x9 then (if x7 < bt116.1 then (if x7 ≤ x2 then ((tombolalaw09_alive.f k).bind fun t118 => (some t118)) else (some false)) else (some false)) else (some false)) else (some false)) else (some false))))) else (none)) else (none))) else (none)))
def tombolalaw09_SpanShifts.f (k : Nat) (l0 : List Int) (a1 : Int) (a2 : Int) : Option (Bool) := if (l0.length : Int) > 200 then ((tombolalaw09_alive.f k).bind fun t101 => (some t101)) else ((span_Shift.f k l0 a1 a2).bind fun bt102 => ((span_Pick.f k l0 a2).bind fun bt104 => (if a1 < 0 then (tombolalaw09_SpanShifts.j0 k l0 a1 a2 bt102.1 bt102.2 bt104.1 true) else (if a1 ≥ (l0.length : Int) then (tombolalaw09_SpanShifts.j0 k l0 a1 a2 bt102.1 bt102.2 bt104.1 true) else (if bt104.2 = true then (tombolalaw09_SpanShifts.j0 k l0 a1 a2 bt102.1 bt102.2 bt104.1 (bt104.1 == a1)) else (tombolalaw09_SpanShifts.j0 k l0 a1 a2 bt102.1 bt102.2 bt104.1 true))))))
theorem tombolalaw09_SpanShifts.mono_l : ∀ k, (∀ y0 y1 y2 y3 y4 y5 y6, LeO (tombolalaw09_SpanShifts.j0 k y0 y1 y2 y3 y4 y5 y6) (tombolalaw09_SpanShifts.j0 (k + 1) y0 y1 y2 y3 y4 y5 y6))
 | 0 => fun _ _ _ _ _ _ _ r h => by simp [tombolalaw09_SpanShifts.j0] at h
 | k + 1 => by
  have ih0 := tombolalaw09_SpanShifts.mono_l k
  ·intro y0 y1 y2 y3 y4 y5 y6
   unfold tombolalaw09_SpanShifts.j0
   repeat' first
   | (with_reducible exact ih0 _ _ _ _ _ _ _)
   | (with_reducible exact span_Pick.mono _ _ _)
   | (with_reducible exact span_Shift.mono _ _ _ _)
   | (with_reducible exact span_Total.mono _ _)
   | (with_reducible exact tombolalaw09_alive.mono _)
   | (with_reducible exact LeO.refl _)
   | (with_reducible exact LeO.none _)
   | (with_reducible refine LeO.ite ?_ ?_)
   | (with_reducible refine LeO.bind ?_ (fun _ => ?_))
   | exact ih0 _ _ _ _ _ _ _
   | exact span_Pick.mono _ _ _
   | exact span_Shift.mono _ _ _ _
   | exact span_Total.mono _ _
   | exact tombolalaw09_alive.mono _
   | exact LeO.none _
   | refine LeO.ite ?_ ?_
   | refine LeO.bind ?_ (fun _ => ?_)
theorem tombolalaw09_SpanShifts.mono : ∀ a0 a1 a2 k, LeO (tombolalaw09_SpanShifts.f k a0 a1 a2) (tombolalaw09_SpanShifts.f (k + 1) a0 a1 a2) := by
 intro a0 a1 a2 k
 have ih0 := tombolalaw09_SpanShifts.mono_l k
 unfold tombolalaw09_SpanShifts.f
 repeat' first
   | (with_reducible exact ih0 _ _ _ _ _ _ _)
   | (with_reducible exact span_Pick.mono _ _ _)
   | (with_reducible exact span_Shift.mono _ _ _ _)
   | (with_reducible exact span_Total.mono _ _)
   | (with_reducible exact tombolalaw09_alive.mono _)
   | (with_reducible exact LeO.refl _)
   | (with_reducible exact LeO.none _)
   | (with_reducible refine LeO.ite ?_ ?_)
   | (with_reducible refine LeO.bind ?_ (fun _ => ?_))
   | exact ih0 _ _ _ _ _ _ _
   | exact span_Pick.mono _ _ _
   | exact span_Shift.mono _ _ _ _
   | exact span_Total.mono _ _
   | exact tombolalaw09_alive.mono _
   | exact LeO.none _
   | refine LeO.ite ?_ ?_
   | refine LeO.bind ?_ (fun _ => ?_)
set_option maxHeartbeats 8000000 in
set_option maxRecDepth 100000 in
theorem tombolalaw09_SpanShifts.calls (k : Nat) (A0 : Option Addr) (c0 : Nat) (l0 : List Int) (a1 : Int) (a2 : Int) (r : Bool) (ht_ : Aside0 (r = true)) (w : World) (hr0 : Kd.C (Kd.int .u64) w A0 l0.length l0) (hc0 : l0.length ≤ c0) (h : tombolalaw09_SpanShifts.f k l0 a1 a2 = some r) :
  Calls Try.prog 4 #[.slice A0 l0.length c0, .int .i64 a1, .int .u64 a2] w fun e w' => e = .returned (.bool r) ∧ Below w.heap.size w w' := by
 have HR0 := Aside0.mk hr0
 have HC0 := Aside0.mk hc0
 clear hr0 hc0
 have HB := Aside0.mk (Below.refl w.heap.size w)
 have H : (if (l0.length : Int) > 200 then ((tombolalaw09_alive.f k).bind fun t101 => (some t101)) else ((span_Shift.f k l0 a1 a2).bind fun bt102 => ((span_Pick.f k l0 a2).bind fun bt104 => (if a1 < 0 then (tombolalaw09_SpanShifts.j0 k l0 a1 a2 bt102.1 bt102.2 bt104.1 true) else (if a1 ≥ (l0.length : Int) then (tombolalaw09_SpanShifts.j0 k l0 a1 a2 bt102.1 bt102.2 bt104.1 true) else (if bt104.2 = true then (tombolalaw09_SpanShifts.j0 k l0 a1 a2 bt102.1 bt102.2 bt104.1 (bt104.1 == a1)) else (tombolalaw09_SpanShifts.j0 k l0 a1 a2 bt102.1 bt102.2 bt104.1 true))))))) = some r := h
 clear h
 by_cases c4 : (l0.length : Int) > 200
 ·rw [if_pos c4] at H
  have c4b0 : decide (200 < (l0.length : Int)) = true := decide_eq_true c4
  have c4b1 : decide (200 < l0.length) = true := decide_eq_true (by omega)
  clear c4
  replace H := Option.bind_eq_some_iff.mp H
  obtain ⟨t101, A50, H⟩ := H
  replace H : (some t101) = some r := H
  have A5 := Aside0.mk A50
  clear A50
  obtain rfl := Option.some.inj H
  go_enter Try.func4, Try.ntmps4
  go_wp2_with (first|((with_reducible refine gate_callee (f := 14) rfl ?_);refine goesL_ (some 19) rfl rfl Try.func14 (by kernel_rfl) rfl #[] rfl (by (try simp only [List.map_toArray, List.map_cons, List.map_nil]);first|done|rfl|(simp only [List.length_drop, List.length_take];rfl)) ?_;(with_reducible refine (tombolalaw09_alive.calls k  t101 _ A5.out).mono ?_);rintro e w6 ⟨rfl, hb⟩;refine ⟨_, rfl, ?_⟩;have n0_ := Aside0.mk (below_step (by repeat (first|(with_reducible first|exact HB.out|apply below_alloc|apply pw_below_drewN|apply below_drew1)|exact HB.out)) hb);clear HB;have HB := n0_;clear n0_;(try clear hb);(try clear hb2);(try clear hk);(try clear hi)))
  go_ret
  exact ⟨by first|rfl|(simp [errW_none, errW_some] <;> rfl)|(simp [*, errW_none, errW_some] <;> rfl), by repeat (first|(with_reducible first|exact HB.out|apply below_alloc|apply pw_below_drewN|apply below_drew1)|exact HB.out)⟩
 ·rw [if_neg c4] at H
  have c4b0 : decide (200 < (l0.length : Int)) = false := decide_eq_false c4
  have c4b1 : decide (200 < l0.length) = false := decide_eq_false (by omega)
  clear c4
  replace H := Option.bind_eq_some_iff.mp H
  obtain ⟨⟨t102, t103⟩, A70, H⟩ := H
  replace H : ((span_Pick.f k l0 a2).bind fun bt104 => (if a1 < 0 then (tombolalaw09_SpanShifts.j0 k l0 a1 a2 t102 t103 bt104.1 true) else (if a1 ≥ (l0.length : Int) then (tombolalaw09_SpanShifts.j0 k l0 a1 a2 t102 t103 bt104.1 true) else (if bt104.2 = true then (tombolalaw09_SpanShifts.j0 k l0 a1 a2 t102 t103 bt104.1 (bt104.1 == a1)) else (tombolalaw09_SpanShifts.j0 k l0 a1 a2 t102 t103 bt104.1 true))))) = some r := H
  have A7 := Aside0.mk A70
  clear A70
  replace H := Option.bind_eq_some_iff.mp H
  obtain ⟨⟨t104, t105⟩, A80, H⟩ := H
  replace H : (if a1 < 0 then (tombolalaw09_SpanShifts.j0 k l0 a1 a2 t102 t103 t104 true) else (if a1 ≥ (l0.length : Int) then (tombolalaw09_SpanShifts.j0 k l0 a1 a2 t102 t103 t104 true) else (if t105 = true then (tombolalaw09_SpanShifts.j0 k l0 a1 a2 t102 t103 t104 (t104 == a1)) else (tombolalaw09_SpanShifts.j0 k l0 a1 a2 t102 t103 t104 true)))) = some r := H
  have A8 := Aside0.mk A80
  clear A80
  have HC9 := Aside0.mk H
  clear H
  go_enter Try.func4, Try.ntmps4
  go_upto_region 5 with (first|((with_reducible refine gate_callee (f := 21) rfl ?_);refine goesL_ (some 24) rfl rfl Try.func21 (by kernel_rfl) rfl #[.slice A0 l0.length c0, .int .i64 a1, .int .u64 a2] rfl (by (try simp only [List.map_toArray, List.map_cons, List.map_nil]);first|done|rfl|(simp only [List.length_drop, List.length_take];rfl)) ?_;(with_reducible refine (span_Shift.calls k _ _ l0 a1 a2 t102 t103 _ ?side1 ?side2 A7.out).mono ?_);(case side1 => repeat (first|exact HR0.out|(with_reducible refine Kd.C_alloc ?_ _)|(with_reducible refine Kd.C_drewN ?_ _)|(with_reducible refine Kd.C_drew ?_)));(case side2 => exact HC0.out);rintro e w10 ⟨rfl, hb⟩;refine ⟨_, rfl, ?_⟩;have n0_ := Aside0.mk (below_step (by repeat (first|(with_reducible first|exact HB.out|apply below_alloc|apply pw_below_drewN|apply below_drew1)|exact HB.out)) hb);clear HB;have HB := n0_;clear n0_;(try clear hb);(try clear hb2);(try clear hk);(try clear hi))|((with_reducible refine gate_callee (f := 18) rfl ?_);refine goesL_ (some 30) rfl rfl Try.func18 (by kernel_rfl) rfl #[.slice A0 l0.length c0, .int .u64 a2] rfl (by (try simp only [List.map_toArray, List.map_cons, List.map_nil]);first|done|rfl|(simp only [List.length_drop, List.length_take];rfl)) ?_;(with_reducible refine (span_Pick.calls k _ _ l0 a2 t104 t105 _ ?side1 ?side2 A8.out).mono ?_);(case side1 => repeat (first|exact (Kd.C_below HR0.out HB.out)|(with_reducible refine Kd.C_alloc ?_ _)|(with_reducible refine Kd.C_drewN ?_ _)|(with_reducible refine Kd.C_drew ?_)));(case side2 => exact HC0.out);rintro e w11 ⟨rfl, hb⟩;refine ⟨_, rfl, ?_⟩;have n0_ := Aside0.mk (below_step (by repeat (first|(with_reducible first|exact HB.out|apply below_alloc|apply pw_below_drewN|apply below_drew1)|exact HB.out)) hb);clear HB;have HB := n0_;clear n0_;(try clear hb);(try clear hb2);(try clear hk);(try clear hi)))
  (try simp only [Act.put, List.setIfInBounds_toArray, List.set_cons_zero, List.set_cons_succ])
  go_cut [49] (fun v49 wc => ∃ (kq : Nat) (x49_8 : Bool), v49 = .bool x49_8 ∧ Aside0 (tombolalaw09_SpanShifts.j0 kq l0 a1 a2 t102 t103 t104 x49_8 = some r) ∧ Aside0 (kq ≤ k) ∧ Aside0 (Below w.heap.size w wc))
  case first =>
   have H := HC9.out
   clear HC9
   by_cases c12 : a1 < 0
   ·rw [if_pos c12] at H
    have c12b0 : decide (a1 < 0) = true := decide_eq_true c12
    clear c12
    (first|rw [c12b0]|rw [c12b1]|(simp only [i64_w, i32_w];rw [c12b0])|skip)
    have H' := Aside0.mk H
    clear H
    go_wp2
    go_meet
    case rel => exact ⟨_, (true), (by first|rfl|(simp;done)|(simp [*];done)), H', ⟨by first|omega|exact Nat.le_refl _⟩, ⟨by repeat (first|(with_reducible first|exact HB.out|apply below_alloc|apply pw_below_drewN|apply below_drew1)|exact HB.out)⟩⟩
   ·rw [if_neg c12] at H
    have c12b0 : decide (a1 < 0) = false := decide_eq_false c12
    clear c12
    (first|rw [c12b0]|rw [c12b1]|(simp only [i64_w, i32_w];rw [c12b0])|skip)
    by_cases c13 : a1 ≥ (l0.length : Int)
    ·rw [if_pos c13] at H
     have c13b0 : decide ((l0.length : Int) ≤ a1) = true := decide_eq_true c13
     clear c13
     have H' := Aside0.mk H
     clear H
     go_wp2
     go_meet
     case rel => exact ⟨_, (true), (by first|rfl|(simp;done)|(simp [*];done)), H', ⟨by first|omega|exact Nat.le_refl _⟩, ⟨by repeat (first|(with_reducible first|exact HB.out|apply below_alloc|apply pw_below_drewN|apply below_drew1)|exact HB.out)⟩⟩
    ·rw [if_neg c13] at H
     have c13b0 : decide ((l0.length : Int) ≤ a1) = false := decide_eq_false c13
     clear c13
     by_cases c14 : t105 = true
     ·subst c14
      have H1 : (tombolalaw09_SpanShifts.j0 k l0 a1 a2 t102 t103 t104 (t104 == a1)) = some r := by rw [if_pos rfl] at H;exact H
      clear H
      have H := H1
      clear H1
      have H' := Aside0.mk H
      clear H
      go_wp2
      go_meet
      case rel => exact ⟨_, ((t104 == a1)), (by first|rfl|(simp;done)|(simp [*];done)), H', ⟨by first|omega|exact Nat.le_refl _⟩, ⟨by repeat (first|(with_reducible first|exact HB.out|apply below_alloc|apply pw_below_drewN|apply below_drew1)|exact HB.out)⟩⟩
     ·replace c14 := Bool.eq_false_iff.mpr c14
      subst c14
      have H1 : (tombolalaw09_SpanShifts.j0 k l0 a1 a2 t102 t103 t104 true) = some r := by rw [if_neg (show ¬ (false = true) by decide)] at H;exact H
      clear H
      have H := H1
      clear H1
      have H' := Aside0.mk H
      clear H
      go_wp2
      go_meet
      case rel => exact ⟨_, (true), (by first|rfl|(simp;done)|(simp [*];done)), H', ⟨by first|omega|exact Nat.le_refl _⟩, ⟨by repeat (first|(with_reducible first|exact HB.out|apply below_alloc|apply pw_below_drewN|apply below_drew1)|exact HB.out)⟩⟩
  case rest =>
   clear HC9
   try clear c1
   try clear c2
   try clear p2
   try clear c4
   try clear c4b0
   try clear c4b1
   try clear c12
   try clear c12b0
   try clear c12b1
   try clear c13
   try clear c13b0
   try clear c14
   obtain ⟨kq, x49_8, rfl, HA, HJ8, HB⟩ := hcut
   cases kq with
   | zero => exact absurd HA.out (by simp [tombolalaw09_SpanShifts.j0])
   | succ kj8 =>
    have H := HA.out
    clear HA
    simp only [tombolalaw09_SpanShifts.j0] at H
    by_cases c15 : x49_8 = true
    ·subst c15
     have H1 : (if t102 = 0 then (if t103 = true then (some false) else ((tombolalaw09_alive.f kj8).bind fun t106 => (some t106))) else (some false)) = some r := by rw [if_pos rfl] at H;exact H
     clear H
     have H := H1
     clear H1
     by_cases c16 : t102 = 0
     ·rw [if_pos c16] at H
      have c16b0 : (t102 == 0) = true := beq_iff_eq.mpr c16
      have c16b1 : (t102 != 0) = false := bne_eq_false_iff_eq.mpr c16
      clear c16
      by_cases c17 : t103 = true
      ·subst c17
       have H1 : (some false) = some r := by rw [if_pos rfl] at H;exact H
       clear H
       have H := H1
       clear H1
       exact absurd ((Option.some.inj H).trans ht_.out) (by simp)
      ·replace c17 := Bool.eq_false_iff.mpr c17
       subst c17
       have H1 : ((tombolalaw09_alive.f kj8).bind fun t106 => (some t106)) = some r := by rw [if_neg (show ¬ (false = true) by decide)] at H;exact H
       clear H
       have H := H1
       clear H1
       replace H := Option.bind_eq_some_iff.mp H
       obtain ⟨t106, A180, H⟩ := H
       replace H : (some t106) = some r := H
       have A18 := Aside0.mk A180
       clear A180
       obtain rfl := Option.some.inj H
       go_wp2_with (first|(go_at_call 14;(with_reducible refine (tombolalaw09_alive.calls kj8  t106 _ A18.out).mono ?_);rintro e w19 ⟨rfl, hb⟩;have n0_ := Aside0.mk (below_step (by repeat (first|(with_reducible first|exact HB.out|apply below_alloc|apply pw_below_drewN|apply below_drew1)|exact HB.out)) hb);clear HB;have HB := n0_;clear n0_;(try clear hb);(try clear hb2);(try clear hk);(try clear hi)))
       go_ret
       exact ⟨by first|rfl|(simp [errW_none, errW_some] <;> rfl)|(simp [*, errW_none, errW_some] <;> rfl), by repeat (first|(with_reducible first|exact HB.out|apply below_alloc|apply pw_below_drewN|apply below_drew1)|exact HB.out)⟩
     ·rw [if_neg c16] at H
      have c16b0 : (t102 == 0) = false := beq_eq_false_iff_ne.mpr c16
      have c16b1 : (t102 != 0) = true := bne_iff_ne.mpr c16
      exact absurd ((Option.some.inj H).trans ht_.out) (by simp)
    ·replace c15 := Bool.eq_false_iff.mpr c15
     subst c15
     have H1 : ((some (([] : List Int) : List Int)).bind fun y107 => (if y107.length + l0.length < 17592186044416 then ((some (y107 ++ l0 : List Int)).bind fun y110 => (if 0 ≤ a1 then (if a1 < (y110.length : Int) then ((some (y110.set (a1 : Int).toNat 0 : List Int)).bind fun y113 => ((span_Pick.f kj8 y113 t102).bind fun bt114 => ((span_Total.f kj8 y113).bind fun bt116 => (if t103 = true then (if bt114.2 = true then (if bt114.1 = t104 then (if t102 < bt116.1 then (if t102 ≤ a2 then ((tombolalaw09_alive.f kj8).bind fun t118 => (some t118)) else (some false)) else (some false)) else (some false)) else (some false)) else (some false))))) else (none)) else (none))) else (none))) = some r := by rw [if_neg (show ¬ (false = true) by decide)] at H;exact H
     clear H
     have H := H1
     clear H1
     obtain ⟨y107, hy107⟩ : ∃ y_ : List Int, y_ = (([] : List Int)) := ⟨_, rfl⟩
     replace H : (if y107.length + l0.length < 17592186044416 then ((some (y107 ++ l0 : List Int)).bind fun y110 => (if 0 ≤ a1 then (if a1 < (y110.length : Int) then ((some (y110.set (a1 : Int).toNat 0 : List Int)).bind fun y113 => ((span_Pick.f kj8 y113 t102).bind fun bt114 => ((span_Total.f kj8 y113).bind fun bt116 => (if t103 = true then (if bt114.2 = true then (if bt114.1 = t104 then (if t102 < bt116.1 then (if t102 ≤ a2 then ((tombolalaw09_alive.f kj8).bind fun t118 => (some t118)) else (some false)) else (some false)) else (some false)) else (some false)) else (some false))))) else (none)) else (none))) else (none)) = some r := by first|(rw [hy107];with_reducible exact H)|(have H2_ := (Option.bind_some _ _).symm.trans H;rw [hy107];with_reducible exact H2_)|(have H2_ := (Option.bind_some _ _).symm.trans H;with_reducible exact H2_)|with_reducible exact H|(rw [hy107];exact H)|exact H
     have Ny107 := Aside0.mk hy107
     clear hy107
     by_cases c20 : y107.length + l0.length < 17592186044416
     ·rw [if_pos c20] at H
      have LMc20 := Aside0.mk c20
      clear c20
      obtain ⟨y110, hy110⟩ : ∃ y_ : List Int, y_ = (y107 ++ l0) := ⟨_, rfl⟩
      replace H : (if 0 ≤ a1 then (if a1 < (y110.length : Int) then ((some (y110.set (a1 : Int).toNat 0 : List Int)).bind fun y113 => ((span_Pick.f kj8 y113 t102).bind fun bt114 => ((span_Total.f kj8 y113).bind fun bt116 => (if t103 = true then (if bt114.2 = true then (if bt114.1 = t104 then (if t102 < bt116.1 then (if t102 ≤ a2 then ((tombolalaw09_alive.f kj8).bind fun t118 => (some t118)) else (some false)) else (some false)) else (some false)) else (some false)) else (some false))))) else (none)) else (none)) = some r := by first|(rw [hy110];with_reducible exact H)|(have H2_ := (Option.bind_some _ _).symm.trans H;rw [hy110];with_reducible exact H2_)|(have H2_ := (Option.bind_some _ _).symm.trans H;with_reducible exact H2_)|with_reducible exact H|(rw [hy110];exact H)|exact H
      have Ny110 := Aside0.mk hy110
      clear hy110
      by_cases c21 : 0 ≤ a1
      ·rw [if_pos c21] at H
       have c21b0 : decide (0 ≤ a1) = true := decide_eq_true c21
       clear c21
       by_cases c22 : a1 < (y110.length : Int)
       ·rw [if_pos c22] at H
        have c22b0 : decide (a1 < (y110.length : Int)) = true := decide_eq_true c22
        clear c22
        obtain ⟨y113, hy113⟩ : ∃ y_ : List Int, y_ = (y110.set (a1 : Int).toNat 0) := ⟨_, rfl⟩
        replace H : ((span_Pick.f kj8 y113 t102).bind fun bt114 => ((span_Total.f kj8 y113).bind fun bt116 => (if t103 = true then (if bt114.2 = true then (if bt114.1 = t104 then (if t102 < bt116.1 then (if t102 ≤ a2 then ((tombolalaw09_alive.f kj8).bind fun t118 => (some t118)) else (some false)) else (some false)) else (some false)) else (some false)) else (some false)))) = some r := by first|(rw [hy113];with_reducible exact H)|(have H2_ := (Option.bind_some _ _).symm.trans H;rw [hy113];with_reducible exact H2_)|(have H2_ := (Option.bind_some _ _).symm.trans H;with_reducible exact H2_)|with_reducible exact H|(rw [hy113];exact H)|exact H
        have Ny113 := Aside0.mk hy113
        clear hy113
        replace H := Option.bind_eq_some_iff.mp H
        obtain ⟨⟨t114, t115⟩, A240, H⟩ := H
        replace H : ((span_Total.f kj8 y113).bind fun bt116 => (if t103 = true then (if t115 = true then (if t114 = t104 then (if t102 < bt116.1 then (if t102 ≤ a2 then ((tombolalaw09_alive.f kj8).bind fun t118 => (some t118)) else (some false)) else (some false)) else (some false)) else (some false)) else (some false))) = some r := H
        have A24 := Aside0.mk A240
        clear A240
        replace H := Option.bind_eq_some_iff.mp H
        obtain ⟨⟨t116, t117⟩, A250, H⟩ := H
        replace H : (if t103 = true then (if t115 = true then (if t114 = t104 then (if t102 < t116 then (if t102 ≤ a2 then ((tombolalaw09_alive.f kj8).bind fun t118 => (some t118)) else (some false)) else (some false)) else (some false)) else (some false)) else (some false)) = some r := H
        have A25 := Aside0.mk A250
        clear A250
        by_cases c26 : t103 = true
        ·subst c26
         have H1 : (if t115 = true then (if t114 = t104 then (if t102 < t116 then (if t102 ≤ a2 then ((tombolalaw09_alive.f kj8).bind fun t118 => (some t118)) else (some false)) else (some false)) else (some false)) else (some false)) = some r := by rw [if_pos rfl] at H;exact H
         clear H
         have H := H1
         clear H1
         by_cases c27 : t115 = true
         ·subst c27
          have H1 : (if t114 = t104 then (if t102 < t116 then (if t102 ≤ a2 then ((tombolalaw09_alive.f kj8).bind fun t118 => (some t118)) else (some false)) else (some false)) else (some false)) = some r := by rw [if_pos rfl] at H;exact H
          clear H
          have H := H1
          clear H1
          by_cases c28 : t114 = t104
          ·rw [if_pos c28] at H
           have c28b0 : (t114 == t104) = true := beq_iff_eq.mpr c28
           have c28b1 : (t114 != t104) = false := bne_eq_false_iff_eq.mpr c28
           clear c28
           by_cases c29 : t102 < t116
           ·rw [if_pos c29] at H
            have c29b0 : decide (t102 < t116) = true := decide_eq_true c29
            clear c29
            by_cases c30 : t102 ≤ a2
            ·rw [if_pos c30] at H
             have c30b0 : decide (t102 ≤ a2) = true := decide_eq_true c30
             clear c30
             replace H := Option.bind_eq_some_iff.mp H
             obtain ⟨t118, A310, H⟩ := H
             replace H : (some t118) = some r := H
             have A31 := Aside0.mk A310
             clear A310
             obtain rfl := Option.some.inj H
             go_wp2_with (first|((with_reducible refine gate_dst (N := 59) rfl ?_);(try (refine gate_guard (by rfl) ?_;dsimp only));refine Kd.R_lit (Kd.int .u64) _ 23 ?hg (N := 59) ?hd (xs := ([] : List Int)) (inner := []) (ok := fun _ => True) (okp := fun _ => True) ?hr ?hp (fun _ hk => hk) trivial (Below.refl _ _) (Nat.le_refl _) (by simp) ?_;(case hd => rfl);(case hg => rfl);(case hr => first|(go_simp;done)|(go_simp;rfl));(case hp => exact (Reps.none _ _));intro v108 w32 ho33 hb hg_ hnew_;clear hg_ hnew_;(first|rw [← Ny107.out] at ho33|(simp only [Int.reduceToNat] at ho33;rw [← Ny107.out] at ho33));have n0_ := Aside0.mk (Kd.R_lower ho33 (below_size (by repeat (first|(with_reducible first|exact HB.out|apply below_alloc|apply pw_below_drewN|apply below_drew1)|exact HB.out))));have n1_ := Aside0.mk (below_step (by repeat (first|(with_reducible first|exact HB.out|apply below_alloc|apply pw_below_drewN|apply below_drew1)|exact HB.out)) hb);clear HB;have HO109 := n0_;have HB := n1_;clear n0_ n1_;clear hb ho33)|((with_reducible refine gate_builtin (b := .append) (xs := #[.tmp 59, .tmp 60]) rfl ?_);(try (refine gate_guard (by rfl) ?_;dsimp only));at_builtin;refine Kd.R_append_rows (Kd.int .u64) (w0 := w) w.heap.size rfl (.tmp 59) (.tmp 60) 22 23 (.int .u64 0) 8 rfl Try.underlying22 info23 rfl (by decide) (by omega) v108 y107 l0 _ _ _ (fun _ => True) (fun _ => False) rfl rfl ?aO ?aR (fun _ _ h => h) (fun _ h => h.elim) ?aF ?aB ?aS ?aL ?_;(case aR => repeat (first|exact (Kd.C_below HR0.out HB.out)|(with_reducible refine Kd.C_alloc ?_ _)|(with_reducible refine Kd.C_drewN ?_ _)|(with_reducible refine Kd.C_drew ?_)));(case aB => exact (by repeat (first|(with_reducible first|exact HB.out|apply below_alloc|apply pw_below_drewN|apply below_drew1)|exact HB.out)));(case aF => exact (fun _ _ => trivial));(case aO => exact (by (with_reducible repeat (first|apply Kd.R_alloc|apply Kd.R_drewN|apply Kd.R_drew));exact HO109.out));(case aS => exact (below_size (by repeat (first|(with_reducible first|exact HB.out|apply below_alloc|apply pw_below_drewN|apply below_drew1)|exact HB.out))));(case aL => have := LMc20.out;omega);intro v111 w34 ho hb hg hat;rw [← Ny110.out] at ho;have n0_ := Aside0.mk (hb);have n1_ := Aside0.mk (ho);clear HB;clear HO109;have HB := n0_;have HO112 := n1_;clear n0_ n1_;clear ho hb hg hat;have p23 : 0 ≤ (a1 : Int) := of_decide_eq_true (by first|(with_reducible assumption)|assumption);have q23 : (a1 : Int) < ((y110.length : Int) : Int) := of_decide_eq_true (by first|(with_reducible assumption)|assumption);obtain ⟨go23, co23, eo23, gb23, gl23, cl23, HG23⟩ := Kd.R_form HO112.out (by omega);(first|cases eo23|(injection eo23 with ea_ en_ ec_;(first|subst ea_|(injection ea_ with ea_;subst ea_));subst ec_;clear en_));have GB23 := Aside0.mk gb23;have GG23 := Aside0.mk HG23;clear gb23 gl23 HG23;obtain ⟨hx23_0, hf23_0⟩ := Kd.R_celln 0 HO112.out (a1 : Int) p23 q23;replace p23 := eq_true p23;replace q23 := eq_true q23;obtain ⟨hy35_, hz35_⟩ := Kd.R_celln 0 HO112.out (a1 : Int) (of_decide_eq_true (by first|(with_reducible assumption)|assumption)) (of_decide_eq_true (by first|(with_reducible assumption)|assumption));have HP35 := Kd.R_putg HO112.out (a1 : Int) 0)|((with_reducible refine gate_store (t := 23) (p := 64) rfl ?_);refine store_event (t := 23) (p := 64) (v := ?vo_w36) (w1 := (w34.setCell ⟨go23, (a1 : Int).toNat, none⟩ (.int .u64 0))) ?hg ?ho ?hn ?hr ?_;(case ho => rfl);(case hg => rfl);(case hn => rfl);(case hr => first|(go_simp;done)|(go_simp;rfl));intro w36 hw;have hg : w34.grownBy w36 (some go23) := (by rw [hw];exact HP35.2);have hp_ : Kd.R (Kd.int .u64) 23 w36 w.heap.size (fun _ => True) (.slice (some ⟨go23, 0, none⟩) y110.length co23) y113 := (by rw [hw, Ny113.out];exact HP35.1);clear HP35;have n0_ := Aside0.mk (hp_);have n1_ := Aside0.mk ((by rw [hw];exact below_set (HB.out) GB23.out : Below w.heap.size w w36));clear HO112;clear HB;have HO112 := n0_;have HB := n1_;clear n0_ n1_;clear hg hw hp_)|((with_reducible refine gate_callee (f := 18) rfl ?_);refine goesL_ (some 68) rfl rfl Try.func18 (by kernel_rfl) rfl #[.slice (some ⟨go23, 0, none⟩) y113.length co23, .int .u64 t102] rfl (by (try simp only [List.map_toArray, List.map_cons, List.map_nil]);first|done|(rw [show y113.length = y110.length from (Kd.R_reads' HO112.out).1.symm] <;> rfl)|rfl|(simp only [List.length_drop, List.length_take];rfl)) ?_;(with_reducible refine (span_Pick.calls kj8 _ _ y113 t102 t114 true _ ?side1 ?side2 A24.out).mono ?_);(case side1 => repeat (first|exact (Kd.R_reads' HO112.out).2.2|(with_reducible refine Kd.C_alloc ?_ _)|(with_reducible refine Kd.C_drewN ?_ _)|(with_reducible refine Kd.C_drew ?_)));(case side2 => rw [show y113.length = y110.length from (Kd.R_reads' HO112.out).1.symm];exact (Kd.R_reads' HO112.out).2.1);rintro e w37 ⟨rfl, hb⟩;refine ⟨_, rfl, ?_⟩;have n0_ := Aside0.mk (Kd.R_below (by (with_reducible repeat (first|apply Kd.R_alloc|apply Kd.R_drewN|apply Kd.R_drew));exact HO112.out) hb);have n1_ := Aside0.mk (below_step (by repeat (first|(with_reducible first|exact HB.out|apply below_alloc|apply pw_below_drewN|apply below_drew1)|exact HB.out)) hb);clear HO112;clear HB;have HO112 := n0_;have HB := n1_;clear n0_ n1_;(try clear hb);(try clear hb2);(try clear hk);(try clear hi))|((with_reducible refine gate_callee (f := 15) rfl ?_);refine goesL_ (some 73) rfl rfl Try.func15 (by kernel_rfl) rfl #[.slice (some ⟨go23, 0, none⟩) y113.length co23] rfl (by (try simp only [List.map_toArray, List.map_cons, List.map_nil]);first|done|(rw [show y113.length = y110.length from (Kd.R_reads' HO112.out).1.symm] <;> rfl)|rfl|(simp only [List.length_drop, List.length_take];rfl)) ?_;(with_reducible refine (span_Total.calls kj8 _ _ y113 t116 t117 _ ?side1 ?side2 A25.out).mono ?_);(case side1 => repeat (first|exact (Kd.R_reads' HO112.out).2.2|(with_reducible refine Kd.C_alloc ?_ _)|(with_reducible refine Kd.C_drewN ?_ _)|(with_reducible refine Kd.C_drew ?_)));(case side2 => rw [show y113.length = y110.length from (Kd.R_reads' HO112.out).1.symm];exact (Kd.R_reads' HO112.out).2.1);rintro e w38 ⟨rfl, hb⟩;refine ⟨_, rfl, ?_⟩;have n0_ := Aside0.mk (Kd.R_below (by (with_reducible repeat (first|apply Kd.R_alloc|apply Kd.R_drewN|apply Kd.R_drew));exact HO112.out) hb);have n1_ := Aside0.mk (below_step (by repeat (first|(with_reducible first|exact HB.out|apply below_alloc|apply pw_below_drewN|apply below_drew1)|exact HB.out)) hb);clear HO112;clear HB;have HO112 := n0_;have HB := n1_;clear n0_ n1_;(try clear hb);(try clear hb2);(try clear hk);(try clear hi))|(go_at_call 14;(with_reducible refine (tombolalaw09_alive.calls kj8  t118 _ A31.out).mono ?_);rintro e w39 ⟨rfl, hb⟩;have n0_ := Aside0.mk (Kd.R_below (by (with_reducible repeat (first|apply Kd.R_alloc|apply Kd.R_drewN|apply Kd.R_drew));exact HO112.out) hb);have n1_ := Aside0.mk (below_step (by repeat (first|(with_reducible first|exact HB.out|apply below_alloc|apply pw_below_drewN|apply below_drew1)|exact HB.out)) hb);clear HO112;clear HB;have HO112 := n0_;have HB := n1_;clear n0_ n1_;(try clear hb);(try clear hb2);(try clear hk);(try clear hi)))
             go_ret
             exact ⟨by first|rfl|(simp [errW_none, errW_some] <;> rfl)|(simp [*, errW_none, errW_some] <;> rfl), by repeat (first|(with_reducible first|exact HB.out|apply below_alloc|apply pw_below_drewN|apply below_drew1)|exact HB.out)⟩
            ·rw [if_neg c30] at H
             have c30b0 : decide (t102 ≤ a2) = false := decide_eq_false c30
             clear c30
             exact absurd ((Option.some.inj H).trans ht_.out) (by simp)
           ·rw [if_neg c29] at H
            have c29b0 : decide (t102 < t116) = false := decide_eq_false c29
            clear c29
            exact absurd ((Option.some.inj H).trans ht_.out) (by simp)
          ·rw [if_neg c28] at H
           have c28b0 : (t114 == t104) = false := beq_eq_false_iff_ne.mpr c28
           have c28b1 : (t114 != t104) = true := bne_iff_ne.mpr c28
           exact absurd ((Option.some.inj H).trans ht_.out) (by simp)
         ·replace c27 := Bool.eq_false_iff.mpr c27
          subst c27
          have H1 : (some false) = some r := by rw [if_neg (show ¬ (false = true) by decide)] at H;exact H
          clear H
          have H := H1
          clear H1
          exact absurd ((Option.some.inj H).trans ht_.out) (by simp)
        ·replace c26 := Bool.eq_false_iff.mpr c26
         subst c26
         have H1 : (some false) = some r := by rw [if_neg (show ¬ (false = true) by decide)] at H;exact H
         clear H
         have H := H1
         clear H1
         exact absurd ((Option.some.inj H).trans ht_.out) (by simp)
       ·rw [if_neg c22] at H
        exact absurd H (by simp)
      ·rw [if_neg c21] at H
       exact absurd H (by simp)
     ·rw [if_neg c20] at H
      exact absurd H (by simp)

/-- THE ONE PURE STATEMENT of tombolalaw09_SpanShifts: yours. -/
def tombolalaw09_SpanShifts.Pure : Prop := ∀ (l0 : List Int) (a1 : Int) (a2 : Int), l0.length ≤ maxLen → l0.length * 8 ≤ 140737488351232 → (∀ x ∈ l0, (Lit.int .u64 x).wf = true) → (Lit.int .i64 a1).wf = true → (Lit.int .u64 a2).wf = true → ∃ k, tombolalaw09_SpanShifts.f k l0 a1 a2 = some true
theorem tombolalaw09_SpanShifts.walk (P : tombolalaw09_SpanShifts.Pure) (a0 : Option Addr) (len0 cap0 : Nat) (z0 : List Int) (a1 : Int) (a2 : Int) (w : World) (w0 : (a0 = none ∧ len0 = 0 ∧ cap0 = 0 ∧ z0 = []) ∨ ∃ x, a0 = some x ∧ len0 ≤ cap0 ∧ cap0 ≤ maxLen ∧ z0.length = cap0 ∧ (∀ i, i < z0.length → w.cell? (x.add i) = some (.int .u64 (z0.getD i 0))) ∧ ∀ n ∈ z0, (Lit.int .u64 n).wf = true) (y0 : len0 * 8 ≤ 140737488351232) (w1 : (Lit.int .i64 a1).wf = true) (w2 : (Lit.int .u64 a2).wf = true) :
  Calls Try.prog 4 #[.slice a0 len0 cap0, .int .i64 a1, .int .u64 a2] w fun e w' => e = .returned (.bool true) ∧ Below w.heap.size w w' := by
 obtain ⟨l0, rfl, hr0, hm0, hw0, hc0⟩ := ReadsInt.ofRowC w0
 obtain ⟨k, h⟩ := P l0 a1 a2 hm0 y0 hw0 w1 w2
 refine (tombolalaw09_SpanShifts.calls k _ _ l0 a1 a2 true ⟨rfl⟩ w (Kd.C_of_reads (d := (0 : Int)) (h1 := fun _ => rfl) hr0) hc0 h).mono ?_
 rintro e w' ⟨rfl, hd⟩
 exact ⟨rfl, hd⟩

end Go.Proofs.Ytogdooclldoomaa.F
