-- Contracts of functions, laid by a program of this session (wip/xp/xp.py)
import Derived.Test.YtogdooclldoomaaF0
import Derived.Test.YtogdooclldoomaaFeq
import Derived.Test.YtogdooclldoomaaFSpanA
import Derived.Test.YtogdooclldoomaaFLaw09alive
import Derived.Test.YtogdooclldoomaaFRef09A
namespace Go.Proofs.Ytogdooclldoomaa.F
open Go.RowKit Go.Proofs.YtogdooclldoomaaW.PrintWords Go.Proofs.YtogdooclldoomaaW.PrintLast Go.Proofs.YtogdooclldoomaaW.PrintMore
attribute [local go_sem] max2_int min2_int max_two min_two max_three min_three max_four min_four   -- for this text's walks alone
set_option linter.unusedVariables false
set_option linter.unusedSimpArgs false

attribute [local go_sem high] eqA34
/-! ### tombolalaw09_SpanTells: function 3 -/
mutual
def tombolalaw09_SpanTells.j0 : Nat → List Int → Int → Int → Bool → List (S34) → Int → Bool → Bool → Option (Bool)
 | 0, _, _, _, _, _, _, _, _ => none
 | k + 1, x0, x1, x7, x8, x9, x11, x12, x52 => if x52 = true then (some false) else (if x8 = true then (tombolalaw09_SpanTells.j1 k x0 x1 x8 x9 x11 x12 (decide (x1 ≥ x7))) else (tombolalaw09_SpanTells.j1 k x0 x1 x8 x9 x11 x12 true))
def tombolalaw09_SpanTells.j1 : Nat → List Int → Int → Bool → List (S34) → Int → Bool → Bool → Option (Bool)
 | 0, _, _, _, _, _, _, _ => none
 | k + 1, x0, x1, x8, x9, x11, x12, x59 => if x59 = true then (if x11 = (-1) then (if x12 = true then (some false) else (if x8 = true then ((tombolalaw09_alive.f k).bind fun t112 => (some t112)) else (if (x9.length : Int) = 0 then ((tombolalaw09_alive.f k).bind fun t113 => (some t113)) else (some false)))) else (some false)) else (if x12 = true then ((tombolaref09_Pick.f k x0 x1).bind fun t114 => (if x11 = t114 then (tombolalaw09_SpanTells.j2 k x0 x1 x9 x11 ((x9.length : Int) != (x0.length : Int))) else (tombolalaw09_SpanTells.j2 k x0 x1 x9 x11 true))) else (tombolalaw09_SpanTells.j2 k x0 x1 x9 x11 true))
def tombolalaw09_SpanTells.j2 : Nat → List Int → Int → List (S34) → Int → Bool → Option (Bool)
 | 0, _, _, _, _, _ => none
 | k + 1, x0, x1, x9, x11, x92 => if x92 = true then (some false) else (tombolalaw09_SpanTells.l0 k x0 x1 x9 x11 0 0)
def tombolalaw09_SpanTells.l0 : Nat → List Int → Int → List (S34) → Int → Int → Int → Option (Bool)
 | 0, _, _, _, _, _, _ => none
 | k + 1, x0, x1, x9, x11, x13, x14 => if x14 < (x0.length : Int) then (if 0 ≤ x14 then (if x14 < (x9.length : Int) then (if (!(((rd_T34 x9 x14).f0) == x13) || (!(((rd_T34 x9 x14).f1) == (rd x0 x14)))) = true then (some false) else ((span_Has.f ((rd_T34 x9 x14).f0) ((rd_T34 x9 x14).f1) x1).bind fun t118 => (if (t118 != (x14 == x11)) = true then (some false) else (tombolalaw09_SpanTells.l0 k x0 x1 x9 x11 (IntKind.u64.wrap (x13 + (rd x0 x14))) (wrap64 (x14 + 1)))))) else (none)) else (none)) else ((tombolalaw09_alive.f k).bind fun t120 => (some t120))
end
def tombolalaw09_SpanTells.f (k : Nat) (l0 : List Int) (a1 : Int) : Option (Bool) := if (l0.length : Int) > 200 then ((tombolalaw09_alive.f k).bind fun t101 => (some t101)) else ((span_Total.f k l0).bind fun bt102 => ((tombolaref09_Total.f k l0).bind fun bt104 => ((span_Spans.f k l0).bind fun bt106 => ((span_Pick.f k l0 a1).bind fun bt110 => (if bt102.1 = bt104.1 then (if (bt102.2 != bt104.2) = true then (tombolalaw09_SpanTells.j0 k l0 a1 bt104.1 bt104.2 bt106.1 bt110.1 bt110.2 true) else (tombolalaw09_SpanTells.j0 k l0 a1 bt104.1 bt104.2 bt106.1 bt110.1 bt110.2 (bt106.2 != bt104.2))) else (tombolalaw09_SpanTells.j0 k l0 a1 bt104.1 bt104.2 bt106.1 bt110.1 bt110.2 true))))))
theorem tombolalaw09_SpanTells.mono_l : ∀ k, (∀ y0 y1 y2 y3 y4 y5 y6 y7, LeO (tombolalaw09_SpanTells.j0 k y0 y1 y2 y3 y4 y5 y6 y7) (tombolalaw09_SpanTells.j0 (k + 1) y0 y1 y2 y3 y4 y5 y6 y7)) ∧ (∀ y0 y1 y2 y3 y4 y5 y6, LeO (tombolalaw09_SpanTells.j1 k y0 y1 y2 y3 y4 y5 y6) (tombolalaw09_SpanTells.j1 (k + 1) y0 y1 y2 y3 y4 y5 y6)) ∧ (∀ y0 y1 y2 y3 y4, LeO (tombolalaw09_SpanTells.j2 k y0 y1 y2 y3 y4) (tombolalaw09_SpanTells.j2 (k + 1) y0 y1 y2 y3 y4)) ∧ (∀ y0 y1 y2 y3 y4 y5, LeO (tombolalaw09_SpanTells.l0 k y0 y1 y2 y3 y4 y5) (tombolalaw09_SpanTells.l0 (k + 1) y0 y1 y2 y3 y4 y5))
 | 0 => ⟨fun _ _ _ _ _ _ _ _ r h => by simp [tombolalaw09_SpanTells.j0] at h, fun _ _ _ _ _ _ _ r h => by simp [tombolalaw09_SpanTells.j1] at h, fun _ _ _ _ _ r h => by simp [tombolalaw09_SpanTells.j2] at h, fun _ _ _ _ _ _ r h => by simp [tombolalaw09_SpanTells.l0] at h⟩
 | k + 1 => by
  obtain ⟨ih0, ih1, ih2, ih3⟩ := tombolalaw09_SpanTells.mono_l k
  refine ⟨?_, ?_, ?_, ?_⟩
  ·intro y0 y1 y2 y3 y4 y5 y6 y7
   unfold tombolalaw09_SpanTells.j0
   repeat' first
   | (with_reducible exact ih0 _ _ _ _ _ _ _ _)
   | (with_reducible exact ih1 _ _ _ _ _ _ _)
   | (with_reducible exact ih2 _ _ _ _ _)
   | (with_reducible exact ih3 _ _ _ _ _ _)
   | (with_reducible exact span_Pick.mono _ _ _)
   | (with_reducible exact span_Spans.mono _ _)
   | (with_reducible exact span_Total.mono _ _)
   | (with_reducible exact tombolalaw09_alive.mono _)
   | (with_reducible exact tombolaref09_Pick.mono _ _ _)
   | (with_reducible exact tombolaref09_Total.mono _ _)
   | (with_reducible exact LeO.refl _)
   | (with_reducible exact LeO.none _)
   | (with_reducible refine LeO.ite ?_ ?_)
   | (with_reducible refine LeO.bind ?_ (fun _ => ?_))
   | exact ih0 _ _ _ _ _ _ _ _
   | exact ih1 _ _ _ _ _ _ _
   | exact ih2 _ _ _ _ _
   | exact ih3 _ _ _ _ _ _
   | exact span_Pick.mono _ _ _
   | exact span_Spans.mono _ _
   | exact span_Total.mono _ _
   | exact tombolalaw09_alive.mono _
   | exact tombolaref09_Pick.mono _ _ _
   | exact tombolaref09_Total.mono _ _
   | exact LeO.none _
   | refine LeO.ite ?_ ?_
   | refine LeO.bind ?_ (fun _ => ?_)
  ·intro y0 y1 y2 y3 y4 y5 y6
   unfold tombolalaw09_SpanTells.j1
   repeat' first
   | (with_reducible exact ih0 _ _ _ _ _ _ _ _)
   | (with_reducible exact ih1 _ _ _ _ _ _ _)
   | (with_reducible exact ih2 _ _ _ _ _)
   | (with_reducible exact ih3 _ _ _ _ _ _)
   | (with_reducible exact span_Pick.mono _ _ _)
   | (with_reducible exact span_Spans.mono _ _)
   | (with_reducible exact span_Total.mono _ _)
   | (with_reducible exact tombolalaw09_alive.mono _)
   | (with_reducible exact tombolaref09_Pick.mono _ _ _)
   | (with_reducible exact tombolaref09_Total.mono _ _)
   | (with_reducible exact LeO.refl _)
   | (with_reducible exact LeO.none _)
   | (with_reducible refine LeO.ite ?_ ?_)
   | (with_reducible refine LeO.bind ?_ (fun _ => ?_))
   | exact ih0 _ _ _ _ _ _ _ _
   | exact ih1 _ _ _ _ _ _ _
   | exact ih2 _ _ _ _ _
   | exact ih3 _ _ _ _ _ _
   | exact span_Pick.mono _ _ _
   | exact span_Spans.mono _ _
   | exact span_Total.mono _ _
   | exact tombolalaw09_alive.mono _
   | exact tombolaref09_Pick.mono _ _ _
   | exact tombolaref09_Total.mono _ _
   | exact LeO.none _
   | refine LeO.ite ?_ ?_
   | refine LeO.bind ?_ (fun _ => ?_)
  ·intro y0 y1 y2 y3 y4
   unfold tombolalaw09_SpanTells.j2
   repeat' first
   | (with_reducible exact ih0 _ _ _ _ _ _ _ _)
   | (with_reducible exact ih1 _ _ _ _ _ _ _)
   | (with_reducible exact ih2 _ _ _ _ _)
   | (with_reducible exact ih3 _ _ _ _ _ _)
   | (with_reducible exact span_Pick.mono _ _ _)
   | (with_reducible exact span_Spans.mono _ _)
   | (with_reducible exact span_Total.mono _ _)
   | (with_reducible exact tombolalaw09_alive.mono _)
   | (with_reducible exact tombolaref09_Pick.mono _ _ _)
   | (with_reducible exact tombolaref09_Total.mono _ _)
   | (with_reducible exact LeO.refl _)
   | (with_reducible exact LeO.none _)
   | (with_reducible refine LeO.ite ?_ ?_)
   | (with_reducible refine LeO.bind ?_ (fun _ => ?_))
   | exact ih0 _ _ _ _ _ _ _ _
   | exact ih1 _ _ _ _ _ _ _
   | exact ih2 _ _ _ _ _
   | exact ih3 _ _ _ _ _ _
   | exact span_Pick.mono _ _ _
   | exact span_Spans.mono _ _
   | exact span_Total.mono _ _
   | exact tombolalaw09_alive.mono _
   | exact tombolaref09_Pick.mono _ _ _
   | exact tombolaref09_Total.mono _ _
   | exact LeO.none _
   | refine LeO.ite ?_ ?_
   | refine LeO.bind ?_ (fun _ => ?_)
  ·intro y0 y1 y2 y3 y4 y5
   unfold tombolalaw09_SpanTells.l0
   repeat' first
   | (with_reducible exact ih0 _ _ _ _ _ _ _ _)
   | (with_reducible exact ih1 _ _ _ _ _ _ _)
   | (with_reducible exact ih2 _ _ _ _ _)
   | (with_reducible exact ih3 _ _ _ _ _ _)
   | (with_reducible exact span_Pick.mono _ _ _)
   | (with_reducible exact span_Spans.mono _ _)
   | (with_reducible exact span_Total.mono _ _)
   | (with_reducible exact tombolalaw09_alive.mono _)
   | (with_reducible exact tombolaref09_Pick.mono _ _ _)
   | (with_reducible exact tombolaref09_Total.mono _ _)
   | (with_reducible exact LeO.refl _)
   | (with_reducible exact LeO.none _)
   | (with_reducible refine LeO.ite ?_ ?_)
   | (with_reducible refine LeO.bind ?_ (fun _ => ?_))
   | exact ih0 _ _ _ _ _ _ _ _
   | exact ih1 _ _ _ _ _ _ _
   | exact ih2 _ _ _ _ _
   | exact ih3 _ _ _ _ _ _
   | exact span_Pick.mono _ _ _
   | exact span_Spans.mono _ _
   | exact span_Total.mono _ _
   | exact tombolalaw09_alive.mono _
   | exact tombolaref09_Pick.mono _ _ _
   | exact tombolaref09_Total.mono _ _
   | exact LeO.none _
   | refine LeO.ite ?_ ?_
   | refine LeO.bind ?_ (fun _ => ?_)
theorem tombolalaw09_SpanTells.mono : ∀ a0 a1 k, LeO (tombolalaw09_SpanTells.f k a0 a1) (tombolalaw09_SpanTells.f (k + 1) a0 a1) := by
 intro a0 a1 k
 obtain ⟨ih0, ih1, ih2, ih3⟩ := tombolalaw09_SpanTells.mono_l k
 unfold tombolalaw09_SpanTells.f
 repeat' first
   | (with_reducible exact ih0 _ _ _ _ _ _ _ _)
   | (with_reducible exact ih1 _ _ _ _ _ _ _)
   | (with_reducible exact ih2 _ _ _ _ _)
   | (with_reducible exact ih3 _ _ _ _ _ _)
   | (with_reducible exact span_Pick.mono _ _ _)
   | (with_reducible exact span_Spans.mono _ _)
   | (with_reducible exact span_Total.mono _ _)
   | (with_reducible exact tombolalaw09_alive.mono _)
   | (with_reducible exact tombolaref09_Pick.mono _ _ _)
   | (with_reducible exact tombolaref09_Total.mono _ _)
   | (with_reducible exact LeO.refl _)
   | (with_reducible exact LeO.none _)
   | (with_reducible refine LeO.ite ?_ ?_)
   | (with_reducible refine LeO.bind ?_ (fun _ => ?_))
   | exact ih0 _ _ _ _ _ _ _ _
   | exact ih1 _ _ _ _ _ _ _
   | exact ih2 _ _ _ _ _
   | exact ih3 _ _ _ _ _ _
   | exact span_Pick.mono _ _ _
   | exact span_Spans.mono _ _
   | exact span_Total.mono _ _
   | exact tombolalaw09_alive.mono _
   | exact tombolaref09_Pick.mono _ _ _
   | exact tombolaref09_Total.mono _ _
   | exact LeO.none _
   | refine LeO.ite ?_ ?_
   | refine LeO.bind ?_ (fun _ => ?_)
def tombolalaw09_SpanTells.T17 : Bool × List (List Nat × List Nat) := (true, [([], []), ([], []), ([0, 1], [0, 1]), ([2], [2]), ([], []), ([], []), ([], []), ([5, 6], [5, 6]), ([7], [7]), ([4, 8], [4, 8]), ([3, 9], [3, 9]), ([10], [10]), ([11], [11]), ([11], [11]), ([12, 13, 11], [11, 12, 13]), ([14, 11], [11, 14]), ([11], [11]), ([15, 16, 11, 11], [11, 15, 16]), ([11], [11]), ([11], [11]), ([18, 19, 11], [11, 18, 19]), ([17, 20, 11], [11, 17, 20]), ([11, 21], [11, 21])])
def tombolalaw09_SpanTells.B17 : List Nat := [0, 0, 3, 7, 0, 0, 0, 96, 224, 496, 1023, 2047, 4095, 4095, 16383, 32767, 4095, 131071, 4095, 4095, 790527, 2097151, 4194303]
theorem tombolalaw09_SpanTells.tab17 : rtab .any (opsOf Try.f3 17) = tombolalaw09_SpanTells.T17 := by kernel_rfl
theorem tombolalaw09_SpanTells.bits17 : waitsOk tombolalaw09_SpanTells.T17.2 tombolalaw09_SpanTells.B17 = true := by kernel_rfl
set_option maxHeartbeats 8000000 in
set_option maxRecDepth 100000 in
theorem tombolalaw09_SpanTells.calls (k : Nat) (A0 : Option Addr) (c0 : Nat) (l0 : List Int) (a1 : Int) (r : Bool) (ht_ : Aside0 (r = true)) (w : World) (hr0 : Kd.C (Kd.int .u64) w A0 l0.length l0) (hc0 : l0.length ≤ c0) (h : tombolalaw09_SpanTells.f k l0 a1 = some r) :
  Calls Try.prog 3 #[.slice A0 l0.length c0, .int .u64 a1] w fun e w' => e = .returned (.bool r) ∧ Below w.heap.size w w' := by
 have hu34 := Try.underlying34
 have HR0 := Aside0.mk hr0
 have HC0 := Aside0.mk hc0
 clear hr0 hc0
 have HB := Aside0.mk (Below.refl w.heap.size w)
 have H : (if (l0.length : Int) > 200 then ((tombolalaw09_alive.f k).bind fun t101 => (some t101)) else ((span_Total.f k l0).bind fun bt102 => ((tombolaref09_Total.f k l0).bind fun bt104 => ((span_Spans.f k l0).bind fun bt106 => ((span_Pick.f k l0 a1).bind fun bt110 => (if bt102.1 = bt104.1 then (if (bt102.2 != bt104.2) = true then (tombolalaw09_SpanTells.j0 k l0 a1 bt104.1 bt104.2 bt106.1 bt110.1 bt110.2 true) else (tombolalaw09_SpanTells.j0 k l0 a1 bt104.1 bt104.2 bt106.1 bt110.1 bt110.2 (bt106.2 != bt104.2))) else (tombolalaw09_SpanTells.j0 k l0 a1 bt104.1 bt104.2 bt106.1 bt110.1 bt110.2 true))))))) = some r := h
 clear h
 by_cases c3 : (l0.length : Int) > 200
 ·rw [if_pos c3] at H
  have c3b0 : decide (200 < (l0.length : Int)) = true := decide_eq_true c3
  have c3b1 : decide (200 < l0.length) = true := decide_eq_true (by omega)
  clear c3
  replace H := Option.bind_eq_some_iff.mp H
  obtain ⟨t101, A40, H⟩ := H
  replace H : (some t101) = some r := H
  have A4 := Aside0.mk A40
  clear A40
  obtain rfl := Option.some.inj H
  go_enter Try.func3, Try.ntmps3
  go_wp2_with (first|((with_reducible refine gate_callee (f := 14) rfl ?_);refine goesL_ (some 18) rfl rfl Try.func14 (by kernel_rfl) rfl #[] rfl (by (try simp only [List.map_toArray, List.map_cons, List.map_nil]);first|done|rfl|(simp only [List.length_drop, List.length_take];rfl)) ?_;(with_reducible refine (tombolalaw09_alive.calls k  t101 _ A4.out).mono ?_);rintro e w5 ⟨rfl, hb⟩;refine ⟨_, rfl, ?_⟩;have n0_ := Aside0.mk (below_step (by repeat (first|(with_reducible first|exact HB.out|apply below_alloc|apply pw_below_drewN|apply below_drew1)|exact HB.out)) hb);clear HB;have HB := n0_;clear n0_;(try clear hb);(try clear hb2);(try clear hk);(try clear hi)))
  go_ret
  exact ⟨by first|rfl|(simp [errW_none, errW_some] <;> rfl)|(simp [*, errW_none, errW_some] <;> rfl), by repeat (first|(with_reducible first|exact HB.out|apply below_alloc|apply pw_below_drewN|apply below_drew1)|exact HB.out)⟩
 ·rw [if_neg c3] at H
  have c3b0 : decide (200 < (l0.length : Int)) = false := decide_eq_false c3
  have c3b1 : decide (200 < l0.length) = false := decide_eq_false (by omega)
  clear c3
  replace H := Option.bind_eq_some_iff.mp H
  obtain ⟨⟨t102, t103⟩, A60, H⟩ := H
  replace H : ((tombolaref09_Total.f k l0).bind fun bt104 => ((span_Spans.f k l0).bind fun bt106 => ((span_Pick.f k l0 a1).bind fun bt110 => (if t102 = bt104.1 then (if (t103 != bt104.2) = true then (tombolalaw09_SpanTells.j0 k l0 a1 bt104.1 bt104.2 bt106.1 bt110.1 bt110.2 true) else (tombolalaw09_SpanTells.j0 k l0 a1 bt104.1 bt104.2 bt106.1 bt110.1 bt110.2 (bt106.2 != bt104.2))) else (tombolalaw09_SpanTells.j0 k l0 a1 bt104.1 bt104.2 bt106.1 bt110.1 bt110.2 true))))) = some r := H
  have A6 := Aside0.mk A60
  clear A60
  replace H := Option.bind_eq_some_iff.mp H
  obtain ⟨⟨t104, t105⟩, A70, H⟩ := H
  replace H : ((span_Spans.f k l0).bind fun bt106 => ((span_Pick.f k l0 a1).bind fun bt110 => (if t102 = t104 then (if (t103 != t105) = true then (tombolalaw09_SpanTells.j0 k l0 a1 t104 t105 bt106.1 bt110.1 bt110.2 true) else (tombolalaw09_SpanTells.j0 k l0 a1 t104 t105 bt106.1 bt110.1 bt110.2 (bt106.2 != t105))) else (tombolalaw09_SpanTells.j0 k l0 a1 t104 t105 bt106.1 bt110.1 bt110.2 true)))) = some r := H
  have A7 := Aside0.mk A70
  clear A70
  replace H := Option.bind_eq_some_iff.mp H
  obtain ⟨⟨t106, t107⟩, A80, H⟩ := H
  replace H : ((span_Pick.f k l0 a1).bind fun bt110 => (if t102 = t104 then (if (t103 != t105) = true then (tombolalaw09_SpanTells.j0 k l0 a1 t104 t105 t106 bt110.1 bt110.2 true) else (tombolalaw09_SpanTells.j0 k l0 a1 t104 t105 t106 bt110.1 bt110.2 (t107 != t105))) else (tombolalaw09_SpanTells.j0 k l0 a1 t104 t105 t106 bt110.1 bt110.2 true))) = some r := H
  have A8 := Aside0.mk A80
  clear A80
  replace H := Option.bind_eq_some_iff.mp H
  obtain ⟨⟨t110, t111⟩, A90, H⟩ := H
  replace H : (if t102 = t104 then (if (t103 != t105) = true then (tombolalaw09_SpanTells.j0 k l0 a1 t104 t105 t106 t110 t111 true) else (tombolalaw09_SpanTells.j0 k l0 a1 t104 t105 t106 t110 t111 (t107 != t105))) else (tombolalaw09_SpanTells.j0 k l0 a1 t104 t105 t106 t110 t111 true)) = some r := H
  have A9 := Aside0.mk A90
  clear A90
  have HC10 := Aside0.mk H
  clear H
  go_enter Try.func3, Try.ntmps3
  go_upto_region 7 with (first|((with_reducible refine gate_callee (f := 15) rfl ?_);refine goesL_ (some 21) rfl rfl Try.func15 (by kernel_rfl) rfl #[.slice A0 l0.length c0] rfl (by (try simp only [List.map_toArray, List.map_cons, List.map_nil]);first|done|rfl|(simp only [List.length_drop, List.length_take];rfl)) ?_;(with_reducible refine (span_Total.calls k _ _ l0 t102 t103 _ ?side1 ?side2 A6.out).mono ?_);(case side1 => repeat (first|exact HR0.out|(with_reducible refine Kd.C_alloc ?_ _)|(with_reducible refine Kd.C_drewN ?_ _)|(with_reducible refine Kd.C_drew ?_)));(case side2 => exact HC0.out);rintro e w11 ⟨rfl, hb⟩;refine ⟨_, rfl, ?_⟩;have n0_ := Aside0.mk (below_step (by repeat (first|(with_reducible first|exact HB.out|apply below_alloc|apply pw_below_drewN|apply below_drew1)|exact HB.out)) hb);clear HB;have HB := n0_;clear n0_;(try clear hb);(try clear hb2);(try clear hk);(try clear hi))|((with_reducible refine gate_callee (f := 16) rfl ?_);refine goesL_ (some 26) rfl rfl Try.func16 (by kernel_rfl) rfl #[.slice A0 l0.length c0] rfl (by (try simp only [List.map_toArray, List.map_cons, List.map_nil]);first|done|rfl|(simp only [List.length_drop, List.length_take];rfl)) ?_;(with_reducible refine (tombolaref09_Total.calls k _ _ l0 t104 t105 _ ?side1 ?side2 A7.out).mono ?_);(case side1 => repeat (first|exact (Kd.C_below HR0.out HB.out)|(with_reducible refine Kd.C_alloc ?_ _)|(with_reducible refine Kd.C_drewN ?_ _)|(with_reducible refine Kd.C_drew ?_)));(case side2 => exact HC0.out);rintro e w12 ⟨rfl, hb⟩;refine ⟨_, rfl, ?_⟩;have n0_ := Aside0.mk (below_step (by repeat (first|(with_reducible first|exact HB.out|apply below_alloc|apply pw_below_drewN|apply below_drew1)|exact HB.out)) hb);clear HB;have HB := n0_;clear n0_;(try clear hb);(try clear hb2);(try clear hk);(try clear hi))|((with_reducible refine gate_callee (f := 17) rfl ?_);refine goesL_ (some 31) rfl rfl Try.func17 (by kernel_rfl) rfl #[.slice A0 l0.length c0] rfl (by (try simp only [List.map_toArray, List.map_cons, List.map_nil]);first|done|rfl|(simp only [List.length_drop, List.length_take];rfl)) ?_;(with_reducible refine (span_Spans.calls k _ _ l0 t106 t107 _ ?side1 ?side2 A8.out).mono ?_);(case side1 => repeat (first|exact (Kd.C_below HR0.out HB.out)|(with_reducible refine Kd.C_alloc ?_ _)|(with_reducible refine Kd.C_drewN ?_ _)|(with_reducible refine Kd.C_drew ?_)));(case side2 => exact HC0.out);rintro e w13 ⟨v108, rfl, ho0, hb⟩;refine ⟨_, rfl, ?_⟩;have n0_ := Aside0.mk (Kd.R_lower ho0 (below_size (by repeat (first|(with_reducible first|exact HB.out|apply below_alloc|apply pw_below_drewN|apply below_drew1)|exact HB.out))));have n1_ := Aside0.mk (below_step (by repeat (first|(with_reducible first|exact HB.out|apply below_alloc|apply pw_below_drewN|apply below_drew1)|exact HB.out)) hb);clear HB;have HO109 := n0_;have HB := n1_;clear n0_ n1_;(try clear hb);(try clear hb2);(try clear hk);(try clear hi);(try clear ho0))|((with_reducible refine gate_callee (f := 18) rfl ?_);refine goesL_ (some 37) rfl rfl Try.func18 (by kernel_rfl) rfl #[.slice A0 l0.length c0, .int .u64 a1] rfl (by (try simp only [List.map_toArray, List.map_cons, List.map_nil]);first|done|rfl|(simp only [List.length_drop, List.length_take];rfl)) ?_;(with_reducible refine (span_Pick.calls k _ _ l0 a1 t110 t111 _ ?side1 ?side2 A9.out).mono ?_);(case side1 => repeat (first|exact (Kd.C_below HR0.out HB.out)|(with_reducible refine Kd.C_alloc ?_ _)|(with_reducible refine Kd.C_drewN ?_ _)|(with_reducible refine Kd.C_drew ?_)));(case side2 => exact HC0.out);rintro e w14 ⟨rfl, hb⟩;refine ⟨_, rfl, ?_⟩;have n0_ := Aside0.mk (Kd.R_below (by (with_reducible repeat (first|apply Kd.R_alloc|apply Kd.R_drewN|apply Kd.R_drew));exact HO109.out) hb);have n1_ := Aside0.mk (below_step (by repeat (first|(with_reducible first|exact HB.out|apply below_alloc|apply pw_below_drewN|apply below_drew1)|exact HB.out)) hb);clear HO109;clear HB;have HO109 := n0_;have HB := n1_;clear n0_ n1_;(try clear hb);(try clear hb2);(try clear hk);(try clear hi)))
  (try simp only [Act.put, List.setIfInBounds_toArray, List.set_cons_zero, List.set_cons_succ])
  go_cut [52] (fun v52 wc => ∃ (kq : Nat) (x52_9 : Bool), v52 = .bool x52_9 ∧ Aside0 (tombolalaw09_SpanTells.j0 kq l0 a1 t104 t105 t106 t110 t111 x52_9 = some r) ∧ Aside0 (kq ≤ k) ∧ Aside0 (Kd.R k34 34 wc w.heap.size (fun _ => True) v108 t106) ∧ Aside0 (Below w.heap.size w wc))
  case first =>
   have H := HC10.out
   clear HC10
   by_cases c15 : t102 = t104
   ·rw [if_pos c15] at H
    have c15b0 : (t102 == t104) = true := beq_iff_eq.mpr c15
    have c15b1 : (t102 != t104) = false := bne_eq_false_iff_eq.mpr c15
    clear c15
    (first|rw [c15b0]|rw [c15b1]|(simp only [i64_w, i32_w];rw [c15b0])|skip)
    by_cases c16 : (t103 != t105) = true
    ·rw [if_pos c16] at H
     have c16b0 : (t103 != t105) = true := c16
     (try (have c16b1 : decide (t103 = t105) = false := by simpa using c16))
     (try (have c16b2 : (t103 == t105) = false := by simpa using c16))
     (try (have c16b3 : ¬ (t103 = t105) := by simpa using c16))
     clear c16
     have hr_ := ht_.out
     subst hr_
     exact absurd H (by cases k <;> simp [tombolalaw09_SpanTells.j0])
    ·rw [if_neg c16] at H
     have c16b0 : (t103 != t105) = false := by simpa using c16
     (try (have c16b1 : decide (t103 = t105) = true := by simpa using c16))
     (try (have c16b2 : (t103 == t105) = true := by simpa using c16))
     clear c16
     have H' := Aside0.mk H
     clear H
     go_wp2
     go_meet
     case rel => exact ⟨_, ((t107 != t105)), (by first|rfl|(simp;done)|(simp [*];done)), H', ⟨by first|omega|exact Nat.le_refl _⟩, ⟨by (with_reducible repeat (first|apply Kd.R_alloc|apply Kd.R_drewN|apply Kd.R_drew));exact HO109.out⟩, ⟨by repeat (first|(with_reducible first|exact HB.out|apply below_alloc|apply pw_below_drewN|apply below_drew1)|exact HB.out)⟩⟩
   ·rw [if_neg c15] at H
    have c15b0 : (t102 == t104) = false := beq_eq_false_iff_ne.mpr c15
    have c15b1 : (t102 != t104) = true := bne_iff_ne.mpr c15
    (first|rw [c15b0]|rw [c15b1]|(simp only [i64_w, i32_w];rw [c15b0])|skip)
    have hr_ := ht_.out
    subst hr_
    exact absurd H (by cases k <;> simp [tombolalaw09_SpanTells.j0])
  case rest =>
   clear HC10
   try clear c1
   try clear p2
   try clear c3
   try clear c3b0
   try clear c3b1
   try clear c14
   try clear c15
   try clear c15b0
   try clear c15b1
   try clear c16
   try clear c16b0
   try clear c16b1
   try clear c16b2
   obtain ⟨kq, x52_9, rfl, HA, HJ9, HO_9, HB⟩ := hcut
   cases kq with
   | zero => exact absurd HA.out (by simp [tombolalaw09_SpanTells.j0])
   | succ kj9 =>
    have H := HA.out
    clear HA
    simp only [tombolalaw09_SpanTells.j0] at H
    by_cases c17 : x52_9 = true
    ·subst c17
     have H1 : (some false) = some r := by rw [if_pos rfl] at H;exact H
     clear H
     have H := H1
     clear H1
     exact absurd ((Option.some.inj H).trans ht_.out) (by simp)
    ·replace c17 := Bool.eq_false_iff.mpr c17
     subst c17
     have H1 : (if t105 = true then (tombolalaw09_SpanTells.j1 kj9 l0 a1 t105 t106 t110 t111 (decide (a1 ≥ t104))) else (tombolalaw09_SpanTells.j1 kj9 l0 a1 t105 t106 t110 t111 true)) = some r := by rw [if_neg (show ¬ (false = true) by decide)] at H;exact H
     clear H
     have H := H1
     clear H1
     have HC18 := Aside0.mk H
     clear H
     go_upto_region 9 with (fail)
     go_cut [59] (fun v59 wc => ∃ (kq : Nat) (x59_17 : Bool), v59 = .bool x59_17 ∧ Aside0 (tombolalaw09_SpanTells.j1 kq l0 a1 t105 t106 t110 t111 x59_17 = some r) ∧ Aside0 (kq ≤ kj9) ∧ Aside0 (Kd.R k34 34 wc w.heap.size (fun _ => True) v108 t106) ∧ Aside0 (Below w.heap.size w wc))
     case first =>
      have H := HC18.out
      clear HC18
      by_cases c19 : t105 = true
      ·subst c19
       have H1 : (tombolalaw09_SpanTells.j1 kj9 l0 a1 true t106 t110 t111 (decide (a1 ≥ t104))) = some r := by rw [if_pos rfl] at H;exact H
       clear H
       have H := H1
       clear H1
       have H' := Aside0.mk H
       clear H
       go_wp2
       go_meet
       case rel => exact ⟨_, (decide (a1 ≥ t104)), (by first|rfl|(simp;done)|(simp [*];done)), H', ⟨by have := HJ9.out;first|omega|exact Nat.le_refl _⟩, ⟨by (with_reducible repeat (first|apply Kd.R_alloc|apply Kd.R_drewN|apply Kd.R_drew));exact HO_9.out⟩, ⟨by repeat (first|(with_reducible first|exact HB.out|apply below_alloc|apply pw_below_drewN|apply below_drew1)|exact HB.out)⟩⟩
      ·replace c19 := Bool.eq_false_iff.mpr c19
       subst c19
       have H1 : (tombolalaw09_SpanTells.j1 kj9 l0 a1 false t106 t110 t111 true) = some r := by rw [if_neg (show ¬ (false = true) by decide)] at H;exact H
       clear H
       have H := H1
       clear H1
       have H' := Aside0.mk H
       clear H
       go_wp2
       go_meet
       case rel => exact ⟨_, (true), (by first|rfl|(simp;done)|(simp [*];done)), H', ⟨by have := HJ9.out;first|omega|exact Nat.le_refl _⟩, ⟨by (with_reducible repeat (first|apply Kd.R_alloc|apply Kd.R_drewN|apply Kd.R_drew));exact HO_9.out⟩, ⟨by repeat (first|(with_reducible first|exact HB.out|apply below_alloc|apply pw_below_drewN|apply below_drew1)|exact HB.out)⟩⟩
     case rest =>
      clear HC18
      try clear c1
      try clear p2
      try clear c3
      try clear c3b0
      try clear c3b1
      try clear c14
      try clear c15
      try clear c15b0
      try clear c15b1
      try clear c16
      try clear c16b0
      try clear c16b1
      try clear c16b2
      try clear c17
      try clear c18
      try clear c19
      try clear p2
      obtain ⟨kq, x59_17, rfl, HA, HJ17, HO_9, HB⟩ := hcut
      cases kq with
      | zero => exact absurd HA.out (by simp [tombolalaw09_SpanTells.j1])
      | succ kj17 =>
       have H := HA.out
       clear HA
       simp only [tombolalaw09_SpanTells.j1] at H
       by_cases c20 : x59_17 = true
       ·subst c20
        have H1 : (if t110 = (-1) then (if t111 = true then (some false) else (if t105 = true then ((tombolalaw09_alive.f kj17).bind fun t112 => (some t112)) else (if (t106.length : Int) = 0 then ((tombolalaw09_alive.f kj17).bind fun t113 => (some t113)) else (some false)))) else (some false)) = some r := by rw [if_pos rfl] at H;exact H
        clear H
        have H := H1
        clear H1
        by_cases c21 : t110 = (-1)
        ·rw [if_pos c21] at H
         have c21b0 : (t110 == (-1)) = true := beq_iff_eq.mpr c21
         have c21b1 : (t110 != (-1)) = false := bne_eq_false_iff_eq.mpr c21
         clear c21
         by_cases c22 : t111 = true
         ·subst c22
          have H1 : (some false) = some r := by rw [if_pos rfl] at H;exact H
          clear H
          have H := H1
          clear H1
          exact absurd ((Option.some.inj H).trans ht_.out) (by simp)
         ·replace c22 := Bool.eq_false_iff.mpr c22
          subst c22
          have H1 : (if t105 = true then ((tombolalaw09_alive.f kj17).bind fun t112 => (some t112)) else (if (t106.length : Int) = 0 then ((tombolalaw09_alive.f kj17).bind fun t113 => (some t113)) else (some false))) = some r := by rw [if_neg (show ¬ (false = true) by decide)] at H;exact H
          clear H
          have H := H1
          clear H1
          by_cases c23 : t105 = true
          ·subst c23
           have H1 : ((tombolalaw09_alive.f kj17).bind fun t112 => (some t112)) = some r := by rw [if_pos rfl] at H;exact H
           clear H
           have H := H1
           clear H1
           replace H := Option.bind_eq_some_iff.mp H
           obtain ⟨t112, A240, H⟩ := H
           replace H : (some t112) = some r := H
           have A24 := Aside0.mk A240
           clear A240
           obtain rfl := Option.some.inj H
           go_wp2_with (first|(go_at_call 14;(with_reducible refine (tombolalaw09_alive.calls kj17  t112 _ A24.out).mono ?_);rintro e w25 ⟨rfl, hb⟩;have n0_ := Aside0.mk (Kd.R_below (by (with_reducible repeat (first|apply Kd.R_alloc|apply Kd.R_drewN|apply Kd.R_drew));exact HO_9.out) hb);have n1_ := Aside0.mk (below_step (by repeat (first|(with_reducible first|exact HB.out|apply below_alloc|apply pw_below_drewN|apply below_drew1)|exact HB.out)) hb);clear HO_9;clear HB;have HO_9 := n0_;have HB := n1_;clear n0_ n1_;(try clear hb);(try clear hb2);(try clear hk);(try clear hi)))
           go_ret
           exact ⟨by first|rfl|(simp [errW_none, errW_some] <;> rfl)|(simp [*, errW_none, errW_some] <;> rfl), by repeat (first|(with_reducible first|exact HB.out|apply below_alloc|apply pw_below_drewN|apply below_drew1)|exact HB.out)⟩
          ·replace c23 := Bool.eq_false_iff.mpr c23
           subst c23
           have H1 : (if (t106.length : Int) = 0 then ((tombolalaw09_alive.f kj17).bind fun t113 => (some t113)) else (some false)) = some r := by rw [if_neg (show ¬ (false = true) by decide)] at H;exact H
           clear H
           have H := H1
           clear H1
           by_cases c26 : (t106.length : Int) = 0
           ·rw [if_pos c26] at H
            have c26b0 : ((t106.length : Int) == 0) = true := beq_iff_eq.mpr c26
            have c26b1 : ((t106.length : Int) != 0) = false := bne_eq_false_iff_eq.mpr c26
            clear c26
            replace H := Option.bind_eq_some_iff.mp H
            obtain ⟨t113, A270, H⟩ := H
            replace H : (some t113) = some r := H
            have A27 := Aside0.mk A270
            clear A270
            obtain rfl := Option.some.inj H
            obtain ⟨Ao28, co28, eo28⟩ := Kd.R_slice HO_9.out
            subst eo28
            go_wp2_with (first|(go_at_call 14;(with_reducible refine (tombolalaw09_alive.calls kj17  t113 _ A27.out).mono ?_);rintro e w29 ⟨rfl, hb⟩;have n0_ := Aside0.mk (Kd.R_below (by (with_reducible repeat (first|apply Kd.R_alloc|apply Kd.R_drewN|apply Kd.R_drew));exact HO_9.out) hb);have n1_ := Aside0.mk (below_step (by repeat (first|(with_reducible first|exact HB.out|apply below_alloc|apply pw_below_drewN|apply below_drew1)|exact HB.out)) hb);clear HO_9;clear HB;have HO_9 := n0_;have HB := n1_;clear n0_ n1_;(try clear hb);(try clear hb2);(try clear hk);(try clear hi)))
            go_ret
            exact ⟨by first|rfl|(simp [errW_none, errW_some] <;> rfl)|(simp [*, errW_none, errW_some] <;> rfl), by repeat (first|(with_reducible first|exact HB.out|apply below_alloc|apply pw_below_drewN|apply below_drew1)|exact HB.out)⟩
           ·rw [if_neg c26] at H
            have c26b0 : ((t106.length : Int) == 0) = false := beq_eq_false_iff_ne.mpr c26
            have c26b1 : ((t106.length : Int) != 0) = true := bne_iff_ne.mpr c26
            have c26b2 : ¬ (t106 = []) := fun h_ => c26 (by rw [h_];rfl)
            exact absurd ((Option.some.inj H).trans ht_.out) (by simp)
        ·rw [if_neg c21] at H
         have c21b0 : (t110 == (-1)) = false := beq_eq_false_iff_ne.mpr c21
         have c21b1 : (t110 != (-1)) = true := bne_iff_ne.mpr c21
         exact absurd ((Option.some.inj H).trans ht_.out) (by simp)
       ·replace c20 := Bool.eq_false_iff.mpr c20
        subst c20
        have H1 : (if t111 = true then ((tombolaref09_Pick.f kj17 l0 a1).bind fun t114 => (if t110 = t114 then (tombolalaw09_SpanTells.j2 kj17 l0 a1 t106 t110 ((t106.length : Int) != (l0.length : Int))) else (tombolalaw09_SpanTells.j2 kj17 l0 a1 t106 t110 true))) else (tombolalaw09_SpanTells.j2 kj17 l0 a1 t106 t110 true)) = some r := by rw [if_neg (show ¬ (false = true) by decide)] at H;exact H
        clear H
        have H := H1
        clear H1
        have HC30 := Aside0.mk H
        clear H
        go_upto_region 11 with (fail)
        go_cut [92] (fun v92 wc => ∃ (kq : Nat) (x92_29 : Bool), v92 = .bool x92_29 ∧ Aside0 (tombolalaw09_SpanTells.j2 kq l0 a1 t106 t110 x92_29 = some r) ∧ Aside0 (kq ≤ kj17) ∧ Aside0 (Kd.R k34 34 wc w.heap.size (fun _ => True) v108 t106) ∧ Aside0 (Below w.heap.size w wc))
        case first =>
         have H := HC30.out
         clear HC30
         by_cases c31 : t111 = true
         ·subst c31
          have H1 : ((tombolaref09_Pick.f kj17 l0 a1).bind fun t114 => (if t110 = t114 then (tombolalaw09_SpanTells.j2 kj17 l0 a1 t106 t110 ((t106.length : Int) != (l0.length : Int))) else (tombolalaw09_SpanTells.j2 kj17 l0 a1 t106 t110 true))) = some r := by rw [if_pos rfl] at H;exact H
          clear H
          have H := H1
          clear H1
          replace H := Option.bind_eq_some_iff.mp H
          obtain ⟨t114, A320, H⟩ := H
          replace H : (if t110 = t114 then (tombolalaw09_SpanTells.j2 kj17 l0 a1 t106 t110 ((t106.length : Int) != (l0.length : Int))) else (tombolalaw09_SpanTells.j2 kj17 l0 a1 t106 t110 true)) = some r := H
          have A32 := Aside0.mk A320
          clear A320
          by_cases c33 : t110 = t114
          ·rw [if_pos c33] at H
           have c33b0 : (t110 == t114) = true := beq_iff_eq.mpr c33
           have c33b1 : (t110 != t114) = false := bne_eq_false_iff_eq.mpr c33
           clear c33
           (first|rw [c33b0]|rw [c33b1]|(simp only [i64_w, i32_w];rw [c33b0])|skip)
           have H' := Aside0.mk H
           clear H
           go_wp2_with (first|(go_at_call 19;(with_reducible refine (tombolaref09_Pick.calls kj17 _ _ l0 a1 t114 _ ?side1 ?side2 A32.out).mono ?_);(case side1 => repeat (first|exact (Kd.C_below HR0.out HB.out)|(with_reducible refine Kd.C_alloc ?_ _)|(with_reducible refine Kd.C_drewN ?_ _)|(with_reducible refine Kd.C_drew ?_)));(case side2 => exact HC0.out);rintro e w' ⟨rfl, ⟨nd, rfl⟩⟩;obtain ⟨Ao34, co34, eo34⟩ := Kd.R_slice HO_9.out;subst eo34))
           go_meet
           case rel => exact ⟨_, (((t106.length : Int) != (l0.length : Int))), (by first|rfl|(simp;done)|(simp [*];done)), H', ⟨by have := HJ9.out;have := HJ17.out;first|omega|exact Nat.le_refl _⟩, ⟨by (with_reducible repeat (first|apply Kd.R_alloc|apply Kd.R_drewN|apply Kd.R_drew));exact HO_9.out⟩, ⟨by repeat (first|(with_reducible first|exact HB.out|apply below_alloc|apply pw_below_drewN|apply below_drew1)|exact HB.out)⟩⟩
          ·rw [if_neg c33] at H
           have c33b0 : (t110 == t114) = false := beq_eq_false_iff_ne.mpr c33
           have c33b1 : (t110 != t114) = true := bne_iff_ne.mpr c33
           (first|rw [c33b0]|rw [c33b1]|(simp only [i64_w, i32_w];rw [c33b0])|skip)
           have hr_ := ht_.out
           subst hr_
           exact absurd H (by cases kj17 <;> simp [tombolalaw09_SpanTells.j2])
         ·replace c31 := Bool.eq_false_iff.mpr c31
          subst c31
          have H1 : (tombolalaw09_SpanTells.j2 kj17 l0 a1 t106 t110 true) = some r := by rw [if_neg (show ¬ (false = true) by decide)] at H;exact H
          clear H
          have H := H1
          clear H1
          have hr_ := ht_.out
          subst hr_
          exact absurd H (by cases kj17 <;> simp [tombolalaw09_SpanTells.j2])
        case rest =>
         clear HC30
         try clear c1
         try clear c2
         try clear p2
         try clear c3
         try clear c3b0
         try clear c3b1
         try clear c14
         try clear c15
         try clear c15b0
         try clear c15b1
         try clear c16
         try clear c16b0
         try clear c16b1
         try clear c16b2
         try clear c17
         try clear c18
         try clear c19
         try clear c20
         try clear c21
         try clear c21b0
         try clear c21b1
         try clear c22
         try clear c23
         try clear c26
         try clear c26b0
         try clear c26b1
         try clear c26b2
         try clear c31
         try clear c33
         try clear c33b0
         try clear c33b1
         try clear p2
         obtain ⟨kq, x92_29, rfl, HA, HJ29, HO_9, HB⟩ := hcut
         cases kq with
         | zero => exact absurd HA.out (by simp [tombolalaw09_SpanTells.j2])
         | succ kj29 =>
          have H := HA.out
          clear HA
          simp only [tombolalaw09_SpanTells.j2] at H
          by_cases c35 : x92_29 = true
          ·subst c35
           have H1 : (some false) = some r := by rw [if_pos rfl] at H;exact H
           clear H
           have H := H1
           clear H1
           exact absurd ((Option.some.inj H).trans ht_.out) (by simp)
          ·replace c35 := Bool.eq_false_iff.mpr c35
           subst c35
           have H1 : (tombolalaw09_SpanTells.l0 kj29 l0 a1 t106 t110 0 0) = some r := by rw [if_neg (show ¬ (false = true) by decide)] at H;exact H
           clear H
           have H := H1
           clear H1
           have H' := Aside0.mk H
           clear H
           go_wp2
           go_loopg [13, 14] kj29 (fun kq v13 v14 w' => ∃ (x13_4 : Int) (x14_4 : Int), v13 = .int .u64 x13_4 ∧ v14 = .int .i64 x14_4 ∧ Aside0 (tombolalaw09_SpanTells.l0 kq l0 a1 t106 t110 x13_4 x14_4 = some r) ∧ Aside0 (kq ≤ kj29) ∧ Aside0 (Kd.R k34 34 w' w.heap.size (fun _ => True) v108 t106) ∧ Aside0 (Below w.heap.size w w'))
           case atStart => exact ⟨(0), (0), (by first|rfl|(simp;done)|(simp [*];done)), (by first|rfl|(simp;done)|(simp [*];done)), H', ⟨Nat.le_refl _⟩, ⟨by (with_reducible repeat (first|apply Kd.R_alloc|apply Kd.R_drewN|apply Kd.R_drew));exact HO_9.out⟩, ⟨by repeat (first|(with_reducible first|exact HB.out|apply below_alloc|apply pw_below_drewN|apply below_drew1)|exact HB.out)⟩⟩
           case round =>
            clear H'
            try clear c1
            try clear c2
            try clear p2
            try clear c3
            try clear c3b0
            try clear c3b1
            try clear c14
            try clear c15
            try clear c15b0
            try clear c15b1
            try clear c16
            try clear c16b0
            try clear c16b1
            try clear c16b2
            try clear c17
            try clear c18
            try clear c19
            try clear c20
            try clear c21
            try clear c21b0
            try clear c21b1
            try clear c22
            try clear c23
            try clear c26
            try clear c26b0
            try clear c26b1
            try clear c26b2
            try clear c31
            try clear c33
            try clear c33b0
            try clear c33b1
            try clear c35
            try clear p2
            obtain ⟨x13_4, x14_4, rfl, rfl, HA, HK4, HO_9, HB⟩ := hrel
            cases gk with
            | zero => exact absurd HA.out (by simp [tombolalaw09_SpanTells.l0])
            | succ k4 =>
             have H := HA.out
             clear HA
             simp only [tombolalaw09_SpanTells.l0] at H
             by_cases c36 : x14_4 < (l0.length : Int)
             ·rw [if_pos c36] at H
              have c36b0 : decide (x14_4 < (l0.length : Int)) = true := decide_eq_true c36
              clear c36
              by_cases c37 : 0 ≤ x14_4
              ·rw [if_pos c37] at H
               have c37b0 : decide (0 ≤ x14_4) = true := decide_eq_true c37
               clear c37
               by_cases c38 : x14_4 < (t106.length : Int)
               ·rw [if_pos c38] at H
                have c38b0 : decide (x14_4 < (t106.length : Int)) = true := decide_eq_true c38
                clear c38
                by_cases c39 : (!(((rd_T34 t106 x14_4).f0) == x13_4) || (!(((rd_T34 t106 x14_4).f1) == (rd l0 x14_4)))) = true
                ·rw [if_pos c39] at H
                 have c39b0 : (!(((rd_T34 t106 x14_4).f0) == x13_4) || (!(((rd_T34 t106 x14_4).f1) == (rd l0 x14_4)))) = true := c39
                 clear c39
                 exact absurd ((Option.some.inj H).trans ht_.out) (by simp)
                ·rw [if_neg c39] at H
                 have c39b0 : (!(((rd_T34 t106 x14_4).f0) == x13_4) || (!(((rd_T34 t106 x14_4).f1) == (rd l0 x14_4)))) = false := by simpa using c39
                 clear c39
                 replace H := Option.bind_eq_some_iff.mp H
                 obtain ⟨t118, A400, H⟩ := H
                 replace H : (if (t118 != (x14_4 == t110)) = true then (some false) else (tombolalaw09_SpanTells.l0 k4 l0 a1 t106 t110 (IntKind.u64.wrap (x13_4 + (rd l0 x14_4))) (wrap64 (x14_4 + 1)))) = some r := H
                 have A40 := Aside0.mk A400
                 clear A400
                 by_cases c41 : (t118 != (x14_4 == t110)) = true
                 ·rw [if_pos c41] at H
                  have c41b0 : (t118 != (x14_4 == t110)) = true := c41
                  (try (have c41b1 : decide (t118 = (x14_4 == t110)) = false := by simpa using c41))
                  (try (have c41b2 : (t118 == (x14_4 == t110)) = false := by simpa using c41))
                  (try (have c41b3 : ¬ (t118 = (x14_4 == t110)) := by simpa using c41))
                  clear c41
                  exact absurd ((Option.some.inj H).trans ht_.out) (by simp)
                 ·rw [if_neg c41] at H
                  have c41b0 : (t118 != (x14_4 == t110)) = false := by simpa using c41
                  (try (have c41b1 : decide (t118 = (x14_4 == t110)) = true := by simpa using c41))
                  (try (have c41b2 : (t118 == (x14_4 == t110)) = true := by simpa using c41))
                  clear c41
                  have H' := Aside0.mk H
                  clear H
                  try go_wp2
                  have n0_ := Aside0.mk (Kd.R_drew HO_9.out)
                  have n1_ := Aside0.mk (below_drew1 HB.out)
                  clear HO_9
                  clear HB
                  have HO_9 := n0_
                  have HB := n1_
                  clear n0_ n1_
                  obtain ⟨Ao43, co43, eo43⟩ := Kd.R_slice HO_9.out
                  (first|subst eo43|(injection eo43 with f1_ f2_ f3_;have f4_ := f1_.symm;have f5_ := f3_.symm;clear f1_ f2_ f3_;subst f4_;subst f5_))
                  have p115 : 0 ≤ (x14_4 : Int) := of_decide_eq_true (by first|(with_reducible assumption)|assumption)
                  have q115 : x14_4 < (t106.length : Int) := of_decide_eq_true (by first|(with_reducible assumption)|assumption)
                  obtain ⟨ad115, e115, hx115_0, hx115_1⟩ := at_T34 (Kd.R_reads' HO_9.out).2.2 x14_4 p115 q115
                  cases e115
                  replace p115 := eq_true p115
                  replace q115 := eq_true q115
                  have p116 : 0 ≤ (x14_4 : Int) := of_decide_eq_true (by first|(with_reducible assumption)|assumption)
                  have q116 : x14_4 < (l0.length : Int) := of_decide_eq_true (by first|(with_reducible assumption)|assumption)
                  obtain ⟨ad116, e116, hx116_0⟩ := Kd.at_int HR0.out x14_4 p116 q116
                  have hw116_0 := hx116_0
                  cases e116
                  replace hx116_0 := (HB.out.cell (World.block_lt_of_cell? w _ hx116_0)).trans hx116_0
                  replace p116 := eq_true p116
                  replace q116 := eq_true q116
                  have p117 : 0 ≤ (x14_4 : Int) := of_decide_eq_true (by first|(with_reducible assumption)|assumption)
                  have q117 : x14_4 < (t106.length : Int) := of_decide_eq_true (by first|(with_reducible assumption)|assumption)
                  obtain ⟨ad117, e117, hx117_0, hx117_1⟩ := at_T34 (Kd.R_reads' HO_9.out).2.2 x14_4 p117 q117
                  obtain rfl : ad115 = ad117 := (by injection e117)
                  replace p117 := eq_true p117
                  replace q117 := eq_true q117
                  refine start_ (n := 23) (S := fun w' => w'.cell? (ad115.add ((x14_4).toNat * 2)) = some (.int .u64 ((rd_T34 t106 x14_4).f0)) ∧ w'.cell? ⟨(ad115.add ((x14_4).toNat * 2)).block, (ad115.add ((x14_4).toNat * 2)).off + 1, none⟩ = some (.int .u64 ((rd_T34 t106 x14_4).f1)) ∧ w'.cell? (ad116.add (x14_4).toNat) = some (.int .u64 (rd l0 x14_4)) ∧ w'.cell? (ad115.add ((x14_4).toNat * 2)) = some (.int .u64 ((rd_T34 t106 x14_4).f0)) ∧ w'.cell? ⟨(ad115.add ((x14_4).toNat * 2)).block, (ad115.add ((x14_4).toNat * 2)).off + 1, none⟩ = some (.int .u64 ((rd_T34 t106 x14_4).f1))) (ds := []) #[false, false, false, false, false, false, false, false, false, false, false, false, false, false, false, false, false, false, false, false, false, false, false] (by kernel_rfl) rfl rfl ⟨hx115_0, hx115_1, ((HB.out.cell (World.block_lt_of_cell? w _ hw116_0)).trans hw116_0), hx117_0, hx117_1⟩ (fun hHeld => ?_);refine with_tabW tombolalaw09_SpanTells.tab17 tombolalaw09_SpanTells.bits17 (fun HT_ HW_ => ?_)
                  generalize wr.drew = w42 at HO_9 HB hx115_0 hx115_1 hx116_0 hx117_0 hx117_1 hHeld ⊢
                  refine pure_ (i := 0) (N := some 99) (v := ?_) (a' := ?_) #[true, false, false, false, false, false, false, false, false, false, false, false, false, false, false, false, false, false, false, false, false, false, false] rfl rfl (any_of HT_.out (by kernel_rfl)) (fun _ _ _ h => h) (Or.inl ⟨by rfl, ?_⟩) ?_ ?_
                  rotate_left
                  ·intro w'
                   go_simp
                   with_reducible rfl
                  rotate_left
                  ·simp only [Act.put, List.setIfInBounds_toArray, List.set_cons_zero, List.set_cons_succ, i64_w, i32_w]
                   rfl
                  refine pure_ (i := 1) (N := some 100) (v := ?_) (a' := ?_) #[true, true, false, false, false, false, false, false, false, false, false, false, false, false, false, false, false, false, false, false, false, false, false] rfl rfl (any_of HT_.out (by kernel_rfl)) (fun _ _ _ h => h) (Or.inl ⟨by rfl, ?_⟩) ?_ ?_
                  rotate_left
                  ·intro w'
                   go_simp
                   with_reducible rfl
                  rotate_left
                  ·simp only [Act.put, List.setIfInBounds_toArray, List.set_cons_zero, List.set_cons_succ, i64_w, i32_w]
                   rfl
                  refine pure_ (i := 2) (N := some 101) (v := ?_) (a' := ?_) #[true, true, true, false, false, false, false, false, false, false, false, false, false, false, false, false, false, false, false, false, false, false, false] rfl rfl (any_of HT_.out (by kernel_rfl)) (fun _ _ _ h => h) (Or.inl ⟨by rfl, ?_⟩) ?_ ?_
                  rotate_left
                  ·intro w'
                   go_simp
                   with_reducible rfl
                  rotate_left
                  ·simp only [Act.put, List.setIfInBounds_toArray, List.set_cons_zero, List.set_cons_succ, i64_w, i32_w]
                   rfl
                  refine pure_ (i := 4) (N := some 103) (v := ?_) (a' := ?_) #[true, true, true, false, true, false, false, false, false, false, false, false, false, false, false, false, false, false, false, false, false, false, false] rfl rfl (any_of HT_.out (by kernel_rfl)) (fun _ _ _ h => h) (Or.inl ⟨by rfl, ?_⟩) ?_ ?_
                  rotate_left
                  ·intro w'
                   go_simp
                   with_reducible rfl
                  rotate_left
                  ·simp only [Act.put, List.setIfInBounds_toArray, List.set_cons_zero, List.set_cons_succ, i64_w, i32_w]
                   rfl
                  refine pure_ (i := 5) (N := some 104) (v := ?_) (a' := ?_) #[true, true, true, false, true, true, false, false, false, false, false, false, false, false, false, false, false, false, false, false, false, false, false] rfl rfl (any_of HT_.out (by kernel_rfl)) (fun _ _ _ h => h) (Or.inl ⟨by rfl, ?_⟩) ?_ ?_
                  rotate_left
                  ·intro w'
                   go_simp
                   with_reducible rfl
                  rotate_left
                  ·simp only [Act.put, List.setIfInBounds_toArray, List.set_cons_zero, List.set_cons_succ, i64_w, i32_w]
                   rfl
                  refine pure_ (i := 6) (N := some 105) (v := ?_) (a' := ?_) #[true, true, true, false, true, true, true, false, false, false, false, false, false, false, false, false, false, false, false, false, false, false, false] rfl rfl (any_of HT_.out (by kernel_rfl)) (fun _ _ _ h => h) (Or.inl ⟨by rfl, ?_⟩) ?_ ?_
                  rotate_left
                  ·intro w'
                   go_simp
                   with_reducible rfl
                  rotate_left
                  ·simp only [Act.put, List.setIfInBounds_toArray, List.set_cons_zero, List.set_cons_succ, i64_w, i32_w]
                   rfl
                  refine pure_ (i := 7) (N := some 106) (v := ?_) (a' := ?_) #[true, true, true, false, true, true, true, true, false, false, false, false, false, false, false, false, false, false, false, false, false, false, false] rfl rfl (any_of HT_.out (by kernel_rfl)) (fun _ _ _ h => h) (Or.inl ⟨by rfl, ?_⟩) ?_ ?_
                  rotate_left
                  ·intro w'
                   go_simp
                   with_reducible rfl
                  rotate_left
                  ·simp only [Act.put, List.setIfInBounds_toArray, List.set_cons_zero, List.set_cons_succ, i64_w, i32_w]
                   rfl
                  refine take_ (i := 3) (N := some 102) (v := ?_) (a' := ?_) #[true, true, true, true, true, true, true, true, false, false, false, false, false, false, false, false, false, false, false, false, false, false, false] rfl rfl (take_ofW HT_.out HW_.out (by kernel_rfl)) (fun _ _ _ h => h) (Or.inl ⟨by rfl, ?_⟩) hHeld ?_ ?_
                  rotate_left
                  ·rintro w' ⟨s0, s1, s2, s3, s4⟩
                   go_simp
                   with_reducible rfl
                  rotate_left
                  ·simp only [Act.put, List.setIfInBounds_toArray, List.set_cons_zero, List.set_cons_succ, i64_w, i32_w]
                   rfl
                  refine take_ (i := 8) (N := some 107) (v := ?_) (a' := ?_) #[true, true, true, true, true, true, true, true, true, false, false, false, false, false, false, false, false, false, false, false, false, false, false] rfl rfl (take_ofW HT_.out HW_.out (by kernel_rfl)) (fun _ _ _ h => h) (Or.inl ⟨by rfl, ?_⟩) hHeld ?_ ?_
                  rotate_left
                  ·rintro w' ⟨s0, s1, s2, s3, s4⟩
                   go_simp
                   with_reducible rfl
                  rotate_left
                  ·simp only [Act.put, List.setIfInBounds_toArray, List.set_cons_zero, List.set_cons_succ, i64_w, i32_w]
                   rfl
                  refine pure_ (i := 9) (N := some 108) (v := ?_) (a' := ?_) #[true, true, true, true, true, true, true, true, true, true, false, false, false, false, false, false, false, false, false, false, false, false, false] rfl rfl (any_of HT_.out (by kernel_rfl)) (fun _ _ _ h => h) (Or.inl ⟨by rfl, ?_⟩) ?_ ?_
                  rotate_left
                  ·intro w'
                   go_simp
                   with_reducible rfl
                  rotate_left
                  ·simp only [Act.put, List.setIfInBounds_toArray, List.set_cons_zero, List.set_cons_succ, i64_w, i32_w]
                   rfl
                  refine pure_ (i := 10) (N := some 109) (v := ?_) (a' := ?_) #[true, true, true, true, true, true, true, true, true, true, true, false, false, false, false, false, false, false, false, false, false, false, false] rfl rfl (any_of HT_.out (by kernel_rfl)) (fun _ _ _ h => h) (Or.inl ⟨by rfl, ?_⟩) ?_ ?_
                  rotate_left
                  ·intro w'
                   go_simp
                   with_reducible rfl
                  rotate_left
                  ·simp only [Act.put, List.setIfInBounds_toArray, List.set_cons_zero, List.set_cons_succ, i64_w, i32_w]
                   rfl
                  refine pure_ (i := 11) (N := some 110) (v := ?_) (a' := ?_) #[true, true, true, true, true, true, true, true, true, true, true, true, false, false, false, false, false, false, false, false, false, false, false] rfl rfl (any_of HT_.out (by kernel_rfl)) (fun _ _ _ h => h) (Or.inl ⟨by rfl, ?_⟩) ?_ ?_
                  rotate_left
                  ·intro w'
                   go_simp
                   with_reducible rfl
                  rotate_left
                  ·simp only [Act.put, List.setIfInBounds_toArray, List.set_cons_zero, List.set_cons_succ, i64_w, i32_w]
                   rfl
                  refine pure_ (i := 12) (N := some 111) (v := ?_) (a' := ?_) #[true, true, true, true, true, true, true, true, true, true, true, true, true, false, false, false, false, false, false, false, false, false, false] rfl rfl (any_of HT_.out (by kernel_rfl)) (fun _ _ _ h => h) (Or.inl ⟨by rfl, ?_⟩) ?_ ?_
                  rotate_left
                  ·intro w'
                   go_simp
                   with_reducible rfl
                  rotate_left
                  ·simp only [Act.put, List.setIfInBounds_toArray, List.set_cons_zero, List.set_cons_succ, i64_w, i32_w]
                   rfl
                  refine pure_ (i := 13) (N := some 112) (v := ?_) (a' := ?_) #[true, true, true, true, true, true, true, true, true, true, true, true, true, true, false, false, false, false, false, false, false, false, false] rfl rfl (any_of HT_.out (by kernel_rfl)) (fun _ _ _ h => h) (Or.inl ⟨by rfl, ?_⟩) ?_ ?_
                  rotate_left
                  ·intro w'
                   go_simp
                   with_reducible rfl
                  rotate_left
                  ·simp only [Act.put, List.setIfInBounds_toArray, List.set_cons_zero, List.set_cons_succ, i64_w, i32_w]
                   rfl
                  refine pure_ (i := 14) (N := some 113) (v := ?_) (a' := ?_) #[true, true, true, true, true, true, true, true, true, true, true, true, true, true, true, false, false, false, false, false, false, false, false] rfl rfl (any_of HT_.out (by kernel_rfl)) (fun _ _ _ h => h) (Or.inl ⟨by rfl, ?_⟩) ?_ ?_
                  rotate_left
                  ·intro w'
                   go_simp
                   with_reducible rfl
                  rotate_left
                  ·simp only [Act.put, List.setIfInBounds_toArray, List.set_cons_zero, List.set_cons_succ, i64_w, i32_w]
                   rfl
                  refine pure_ (i := 16) (N := some 115) (v := ?_) (a' := ?_) #[true, true, true, true, true, true, true, true, true, true, true, true, true, true, true, false, true, false, false, false, false, false, false] rfl rfl (any_of HT_.out (by kernel_rfl)) (fun _ _ _ h => h) (Or.inl ⟨by rfl, ?_⟩) ?_ ?_
                  rotate_left
                  ·intro w'
                   go_simp
                   with_reducible rfl
                  rotate_left
                  ·simp only [Act.put, List.setIfInBounds_toArray, List.set_cons_zero, List.set_cons_succ, i64_w, i32_w]
                   rfl
                  refine pure_ (i := 18) (N := some 117) (v := ?_) (a' := ?_) #[true, true, true, true, true, true, true, true, true, true, true, true, true, true, true, false, true, false, true, false, false, false, false] rfl rfl (any_of HT_.out (by kernel_rfl)) (fun _ _ _ h => h) (Or.inl ⟨by rfl, ?_⟩) ?_ ?_
                  rotate_left
                  ·intro w'
                   go_simp
                   with_reducible rfl
                  rotate_left
                  ·simp only [Act.put, List.setIfInBounds_toArray, List.set_cons_zero, List.set_cons_succ, i64_w, i32_w]
                   rfl
                  refine pure_ (i := 19) (N := some 118) (v := ?_) (a' := ?_) #[true, true, true, true, true, true, true, true, true, true, true, true, true, true, true, false, true, false, true, true, false, false, false] rfl rfl (any_of HT_.out (by kernel_rfl)) (fun _ _ _ h => h) (Or.inl ⟨by rfl, ?_⟩) ?_ ?_
                  rotate_left
                  ·intro w'
                   go_simp
                   with_reducible rfl
                  rotate_left
                  ·simp only [Act.put, List.setIfInBounds_toArray, List.set_cons_zero, List.set_cons_succ, i64_w, i32_w]
                   rfl
                  refine pure_ (i := 20) (N := some 119) (v := ?_) (a' := ?_) #[true, true, true, true, true, true, true, true, true, true, true, true, true, true, true, false, true, false, true, true, true, false, false] rfl rfl (any_of HT_.out (by kernel_rfl)) (fun _ _ _ h => h) (Or.inl ⟨by rfl, ?_⟩) ?_ ?_
                  rotate_left
                  ·intro w'
                   go_simp
                   with_reducible rfl
                  rotate_left
                  ·simp only [Act.put, List.setIfInBounds_toArray, List.set_cons_zero, List.set_cons_succ, i64_w, i32_w]
                   rfl
                  refine take_ (i := 15) (N := some 114) (v := ?_) (a' := ?_) #[true, true, true, true, true, true, true, true, true, true, true, true, true, true, true, true, true, false, true, true, true, false, false] rfl rfl (take_ofW HT_.out HW_.out (by kernel_rfl)) (fun _ _ _ h => h) (Or.inl ⟨by rfl, ?_⟩) hHeld ?_ ?_
                  rotate_left
                  ·rintro w' ⟨s0, s1, s2, s3, s4⟩
                   go_simp
                   with_reducible rfl
                  rotate_left
                  ·simp only [Act.put, List.setIfInBounds_toArray, List.set_cons_zero, List.set_cons_succ, i64_w, i32_w]
                   rfl
                  refine one_ (i := 17) (N := some 116) #[true, true, true, true, true, true, true, true, true, true, true, true, true, true, true, true, true, true, true, true, true, false, false] rfl rfl (one_of HT_.out (by kernel_rfl)) (by decide) (fun K hK => ?_)
                  refine goes_ Try.func20 (by kernel_rfl) rfl #[.agg #[.int .u64 ((rd_T34 t106 x14_4).f0), .int .u64 ((rd_T34 t106 x14_4).f1)], .int .u64 a1] (by rfl) rfl rfl (by (try simp only [List.map_toArray, List.map_cons, List.map_nil]);first|done|rfl|(simp only [List.length_drop, List.length_take];rfl)) ?_
                  with_reducible refine (span_Has.calls ((rd_T34 t106 x14_4).f0) ((rd_T34 t106 x14_4).f1) a1 t118 _ A40.out).mono ?_
                  rintro e w44 ⟨rfl, hb⟩
                  have HS0_ := (hb.cell (World.block_lt_of_cell? _ _ (hHeld.1))).trans (hHeld.1)
                  have HS1_ := (hb.cell (World.block_lt_of_cell? _ _ (hHeld.2.1))).trans (hHeld.2.1)
                  have HS3_ := (hb.cell (World.block_lt_of_cell? _ _ (hHeld.2.2.2.1))).trans (hHeld.2.2.2.1)
                  have HS4_ := (hb.cell (World.block_lt_of_cell? _ _ (hHeld.2.2.2.2))).trans (hHeld.2.2.2.2)
                  refine ⟨_, rfl, ?_⟩
                  have n0_ := Aside0.mk (Kd.R_below (by (with_reducible repeat (first|apply Kd.R_alloc|apply Kd.R_drewN|apply Kd.R_drew));exact HO_9.out) hb)
                  have n1_ := Aside0.mk (below_step (by repeat (first|(with_reducible first|exact HB.out|apply below_alloc|apply pw_below_drewN|apply below_drew1)|exact HB.out)) hb)
                  clear HO_9
                  clear HB
                  have HO_9 := n0_
                  have HB := n1_
                  clear n0_ n1_
                  (try clear hb)
                  (try clear hb2)
                  (try clear hk)
                  (try clear hi)
                  refine hK.out _ _ ⟨HS0_, HS1_, ((HB.out.cell (World.block_lt_of_cell? w _ hw116_0)).trans hw116_0), HS3_, HS4_⟩ (fun hHeld => ?_)
                  clear hK K
                  refine norm_ (a' := ?_) ?_ ?_
                  rotate_left
                  ·show Act.put _ (some 116) _ = _
                   simp only [Act.put, List.setIfInBounds_toArray, List.set_cons_zero, List.set_cons_succ, i64_w, i32_w]
                   rfl
                  refine pure_ (i := 21) (N := some 120) (v := ?_) (a' := ?_) #[true, true, true, true, true, true, true, true, true, true, true, true, true, true, true, true, true, true, true, true, true, true, false] rfl rfl (any_of HT_.out (by kernel_rfl)) (fun _ _ _ h => h) (Or.inl ⟨by rfl, ?_⟩) ?_ ?_
                  rotate_left
                  ·intro w'
                   go_simp
                   with_reducible rfl
                  rotate_left
                  ·simp only [Act.put, List.setIfInBounds_toArray, List.set_cons_zero, List.set_cons_succ, i64_w, i32_w]
                   rfl
                  refine pure_ (i := 22) (N := some 121) (v := ?_) (a' := ?_) #[true, true, true, true, true, true, true, true, true, true, true, true, true, true, true, true, true, true, true, true, true, true, true] rfl rfl (any_of HT_.out (by kernel_rfl)) (fun _ _ _ h => h) (Or.inl ⟨by rfl, ?_⟩) ?_ ?_
                  rotate_left
                  ·intro w'
                   go_simp
                   with_reducible rfl
                  rotate_left
                  ·simp only [Act.put, List.setIfInBounds_toArray, List.set_cons_zero, List.set_cons_succ, i64_w, i32_w]
                   rfl
                  refine done_ (done_of HT_.out (by kernel_rfl)) ?_
                  have p119 : 0 ≤ (x14_4 : Int) := of_decide_eq_true (by first|(with_reducible assumption)|assumption)
                  have q119 : x14_4 < (l0.length : Int) := of_decide_eq_true (by first|(with_reducible assumption)|assumption)
                  obtain ⟨ad119, e119, hx119_0⟩ := Kd.at_int HR0.out x14_4 p119 q119
                  obtain rfl : ad116 = ad119 := (by injection e119)
                  replace hx119_0 := (HB.out.cell (World.block_lt_of_cell? w _ hx119_0)).trans hx119_0
                  replace p119 := eq_true p119
                  replace q119 := eq_true q119
                  try go_wp2
                  go_roundg k4
                  case measure => have := HJ9.out;have := HJ17.out;have := HJ29.out;have := HK4.out;omega
                  case rel => exact ⟨(IntKind.u64.wrap (x13_4 + (rd l0 x14_4))), (wrap64 (x14_4 + 1)), (by first|rfl|(simp;done)|(simp [*];done)), (by first|rfl|(simp;done)|(simp [*];done)), H', ⟨by have := HJ9.out;have := HJ17.out;have := HJ29.out;have := HK4.out;omega⟩, ⟨by (with_reducible repeat (first|apply Kd.R_alloc|apply Kd.R_drewN|apply Kd.R_drew));exact HO_9.out⟩, ⟨by repeat (first|(with_reducible first|exact HB.out|apply below_alloc|apply pw_below_drewN|apply below_drew1)|exact HB.out)⟩⟩
               ·rw [if_neg c38] at H
                exact absurd H (by simp)
              ·rw [if_neg c37] at H
               exact absurd H (by simp)
             ·rw [if_neg c36] at H
              have c36b0 : decide (x14_4 < (l0.length : Int)) = false := decide_eq_false c36
              clear c36
              replace H := Option.bind_eq_some_iff.mp H
              obtain ⟨t120, A450, H⟩ := H
              replace H : (some t120) = some r := H
              have A45 := Aside0.mk A450
              clear A450
              obtain rfl := Option.some.inj H
              go_wp2_with (first|((with_reducible refine gate_callee (f := 14) rfl ?_);refine goesL_ (some 128) rfl rfl Try.func14 (by kernel_rfl) rfl #[] rfl (by (try simp only [List.map_toArray, List.map_cons, List.map_nil]);first|done|rfl|(simp only [List.length_drop, List.length_take];rfl)) ?_;(with_reducible refine (tombolalaw09_alive.calls k4  t120 _ A45.out).mono ?_);rintro e w46 ⟨rfl, hb⟩;refine ⟨_, rfl, ?_⟩;have n0_ := Aside0.mk (Kd.R_below (by (with_reducible repeat (first|apply Kd.R_alloc|apply Kd.R_drewN|apply Kd.R_drew));exact HO_9.out) hb);have n1_ := Aside0.mk (below_step (by repeat (first|(with_reducible first|exact HB.out|apply below_alloc|apply pw_below_drewN|apply below_drew1)|exact HB.out)) hb);clear HO_9;clear HB;have HO_9 := n0_;have HB := n1_;clear n0_ n1_;(try clear hb);(try clear hb2);(try clear hk);(try clear hi)))
              go_ret
              exact ⟨by first|rfl|(simp [errW_none, errW_some] <;> rfl)|(simp [*, errW_none, errW_some] <;> rfl), by repeat (first|(with_reducible first|exact HB.out|apply below_alloc|apply pw_below_drewN|apply below_drew1)|exact HB.out)⟩

/-- THE ONE PURE STATEMENT of tombolalaw09_SpanTells: yours. -/
def tombolalaw09_SpanTells.Pure : Prop := ∀ (l0 : List Int) (a1 : Int), l0.length ≤ maxLen → l0.length * 8 ≤ 140737488351232 → (∀ x ∈ l0, (Lit.int .u64 x).wf = true) → (Lit.int .u64 a1).wf = true → ∃ k, tombolalaw09_SpanTells.f k l0 a1 = some true
theorem tombolalaw09_SpanTells.walk (P : tombolalaw09_SpanTells.Pure) (a0 : Option Addr) (len0 cap0 : Nat) (z0 : List Int) (a1 : Int) (w : World) (w0 : (a0 = none ∧ len0 = 0 ∧ cap0 = 0 ∧ z0 = []) ∨ ∃ x, a0 = some x ∧ len0 ≤ cap0 ∧ cap0 ≤ maxLen ∧ z0.length = cap0 ∧ (∀ i, i < z0.length → w.cell? (x.add i) = some (.int .u64 (z0.getD i 0))) ∧ ∀ n ∈ z0, (Lit.int .u64 n).wf = true) (y0 : len0 * 8 ≤ 140737488351232) (w1 : (Lit.int .u64 a1).wf = true) :
  Calls Try.prog 3 #[.slice a0 len0 cap0, .int .u64 a1] w fun e w' => e = .returned (.bool true) ∧ Below w.heap.size w w' := by
 obtain ⟨l0, rfl, hr0, hm0, hw0, hc0⟩ := ReadsInt.ofRowC w0
 obtain ⟨k, h⟩ := P l0 a1 hm0 y0 hw0 w1
 refine (tombolalaw09_SpanTells.calls k _ _ l0 a1 true ⟨rfl⟩ w (Kd.C_of_reads (d := (0 : Int)) (h1 := fun _ => rfl) hr0) hc0 h).mono ?_
 rintro e w' ⟨rfl, hd⟩
 exact ⟨rfl, hd⟩

end Go.Proofs.Ytogdooclldoomaa.F
