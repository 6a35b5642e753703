-- Contracts of functions, laid by a program of this session (wip/xp/xp.py)
import Derived.Test.YtjphoempoinedaaF0
import Derived.Test.YtjphoempoinedaaFDrawA
import Derived.Test.YtjphoempoinedaaFLaw08alive
namespace Go.Proofs.Ytjphoempoinedaa.F
open Go.RowKit Go.Proofs.YtjphoempoinedaaW.PrintWords Go.Proofs.YtjphoempoinedaaW.PrintLast Go.Proofs.YtjphoempoinedaaW.PrintMore
attribute [local go_sem] max2_int min2_int max_two min_two max_three min_three max_four min_four   -- for this text's walks alone
set_option linter.unusedVariables false
set_option linter.unusedSimpArgs false

/-! ### tombolalaw08_DrawWords: function 4 -/
mutual
def tombolalaw08_DrawWords.j0 : Nat → Int → Int → Int → Int → Int → Bool → Bool → Option (Bool)
 | 0, _, _, _, _, _, _, _ => none
 | k + 1, x0, x1, x2, x3, x9, x10, x12 => if x1 < x0 then (if (x10 != x12) = true then (tombolalaw08_DrawWords.j1 k x0 x1 x2 x3 x9 x10 true) else (if x10 = true then (tombolalaw08_DrawWords.j1 k x0 x1 x2 x3 x9 x10 false) else (tombolalaw08_DrawWords.j1 k x0 x1 x2 x3 x9 x10 (x9 != 0)))) else (if (x10 != false) = true then (tombolalaw08_DrawWords.j1 k x0 x1 x2 x3 x9 x10 true) else (if x10 = true then (tombolalaw08_DrawWords.j1 k x0 x1 x2 x3 x9 x10 false) else (tombolalaw08_DrawWords.j1 k x0 x1 x2 x3 x9 x10 (x9 != 0))))
def tombolalaw08_DrawWords.j1 : Nat → Int → Int → Int → Int → Int → Bool → Bool → Option (Bool)
 | 0, _, _, _, _, _, _, _ => none
 | k + 1, x0, x1, x2, x3, x9, x10, x52 => if x52 = true then (some false) else ((draw_Tell.f x0 x9).bind fun bt106 => (if x10 = true then (if bt106.2 = true then (if bt106.1 = x1 then (if x0 = 0 then (none) else (tombolalaw08_DrawWords.j2 k x0 x3 ((IntKind.u64.wrap (Int.tdiv x9 x0)) != x2))) else (tombolalaw08_DrawWords.j2 k x0 x3 true)) else (tombolalaw08_DrawWords.j2 k x0 x3 true)) else (tombolalaw08_DrawWords.j2 k x0 x3 false)))
def tombolalaw08_DrawWords.j2 : Nat → Int → Int → Bool → Option (Bool)
 | 0, _, _, _ => none
 | k + 1, x0, x3, x75 => if x75 = true then (some false) else ((draw_Tell.f x0 x3).bind fun bt108 => (if bt108.2 = true then (if x0 = 0 then (none) else ((draw_Word.f k x0 bt108.1 (IntKind.u64.wrap (Int.tdiv x3 x0))).bind fun bt110 => (if bt110.2 = true then (if bt110.1 = x3 then ((tombolalaw08_alive.f).bind fun t112 => (some t112)) else (some false)) else (some false)))) else ((tombolalaw08_alive.f).bind fun t113 => (some t113))))
end
def tombolalaw08_DrawWords.f (k : Nat) (a0 : Int) (a1 : Int) (a2 : Int) (a3 : Int) : Option (Bool) := (draw_Word.f k a0 a1 a2).bind fun bt101 => ((draw_Each.f k a0).bind fun bt103 => (if bt103.1 > 0 then (tombolalaw08_DrawWords.j0 k a0 a1 a2 a3 bt101.1 bt101.2 true) else (tombolalaw08_DrawWords.j0 k a0 a1 a2 a3 bt101.1 bt101.2 (decide (a2 < bt103.2)))))
theorem tombolalaw08_DrawWords.mono_l : ∀ k, (∀ y0 y1 y2 y3 y4 y5 y6, LeO (tombolalaw08_DrawWords.j0 k y0 y1 y2 y3 y4 y5 y6) (tombolalaw08_DrawWords.j0 (k + 1) y0 y1 y2 y3 y4 y5 y6)) ∧ (∀ y0 y1 y2 y3 y4 y5 y6, LeO (tombolalaw08_DrawWords.j1 k y0 y1 y2 y3 y4 y5 y6) (tombolalaw08_DrawWords.j1 (k + 1) y0 y1 y2 y3 y4 y5 y6)) ∧ (∀ y0 y1 y2, LeO (tombolalaw08_DrawWords.j2 k y0 y1 y2) (tombolalaw08_DrawWords.j2 (k + 1) y0 y1 y2))
 | 0 => ⟨fun _ _ _ _ _ _ _ r h => by simp [tombolalaw08_DrawWords.j0] at h, fun _ _ _ _ _ _ _ r h => by simp [tombolalaw08_DrawWords.j1] at h, fun _ _ _ r h => by simp [tombolalaw08_DrawWords.j2] at h⟩
 | k + 1 => by
  obtain ⟨ih0, ih1, ih2⟩ := tombolalaw08_DrawWords.mono_l k
  refine ⟨?_, ?_, ?_⟩
  ·intro y0 y1 y2 y3 y4 y5 y6
   unfold tombolalaw08_DrawWords.j0
   repeat' first
   | (with_reducible exact ih0 _ _ _ _ _ _ _)
   | (with_reducible exact ih1 _ _ _ _ _ _ _)
   | (with_reducible exact ih2 _ _ _)
   | (with_reducible exact draw_Each.mono _ _)
   | (with_reducible exact draw_Word.mono _ _ _ _)
   | (with_reducible exact LeO.refl _)
   | (with_reducible exact LeO.none _)
   | (with_reducible refine LeO.ite ?_ ?_)
   | (with_reducible refine LeO.bind ?_ (fun _ => ?_))
   | exact ih0 _ _ _ _ _ _ _
   | exact ih1 _ _ _ _ _ _ _
   | exact ih2 _ _ _
   | exact draw_Each.mono _ _
   | exact draw_Word.mono _ _ _ _
   | exact LeO.none _
   | refine LeO.ite ?_ ?_
   | refine LeO.bind ?_ (fun _ => ?_)
  ·intro y0 y1 y2 y3 y4 y5 y6
   unfold tombolalaw08_DrawWords.j1
   repeat' first
   | (with_reducible exact ih0 _ _ _ _ _ _ _)
   | (with_reducible exact ih1 _ _ _ _ _ _ _)
   | (with_reducible exact ih2 _ _ _)
   | (with_reducible exact draw_Each.mono _ _)
   | (with_reducible exact draw_Word.mono _ _ _ _)
   | (with_reducible exact LeO.refl _)
   | (with_reducible exact LeO.none _)
   | (with_reducible refine LeO.ite ?_ ?_)
   | (with_reducible refine LeO.bind ?_ (fun _ => ?_))
   | exact ih0 _ _ _ _ _ _ _
   | exact ih1 _ _ _ _ _ _ _
   | exact ih2 _ _ _
   | exact draw_Each.mono _ _
   | exact draw_Word.mono _ _ _ _
   | exact LeO.none _
   | refine LeO.ite ?_ ?_
   | refine LeO.bind ?_ (fun _ => ?_)
  ·intro y0 y1 y2
   unfold tombolalaw08_DrawWords.j2
   repeat' first
   | (with_reducible exact ih0 _ _ _ _ _ _ _)
   | (with_reducible exact ih1 _ _ _ _ _ _ _)
   | (with_reducible exact ih2 _ _ _)
   | (with_reducible exact draw_Each.mono _ _)
   | (with_reducible exact draw_Word.mono _ _ _ _)
   | (with_reducible exact LeO.refl _)
   | (with_reducible exact LeO.none _)
   | (with_reducible refine LeO.ite ?_ ?_)
   | (with_reducible refine LeO.bind ?_ (fun _ => ?_))
   | exact ih0 _ _ _ _ _ _ _
   | exact ih1 _ _ _ _ _ _ _
   | exact ih2 _ _ _
   | exact draw_Each.mono _ _
   | exact draw_Word.mono _ _ _ _
   | exact LeO.none _
   | refine LeO.ite ?_ ?_
   | refine LeO.bind ?_ (fun _ => ?_)
theorem tombolalaw08_DrawWords.mono : ∀ a0 a1 a2 a3 k, LeO (tombolalaw08_DrawWords.f k a0 a1 a2 a3) (tombolalaw08_DrawWords.f (k + 1) a0 a1 a2 a3) := by
 intro a0 a1 a2 a3 k
 obtain ⟨ih0, ih1, ih2⟩ := tombolalaw08_DrawWords.mono_l k
 unfold tombolalaw08_DrawWords.f
 repeat' first
   | (with_reducible exact ih0 _ _ _ _ _ _ _)
   | (with_reducible exact ih1 _ _ _ _ _ _ _)
   | (with_reducible exact ih2 _ _ _)
   | (with_reducible exact draw_Each.mono _ _)
   | (with_reducible exact draw_Word.mono _ _ _ _)
   | (with_reducible exact LeO.refl _)
   | (with_reducible exact LeO.none _)
   | (with_reducible refine LeO.ite ?_ ?_)
   | (with_reducible refine LeO.bind ?_ (fun _ => ?_))
   | exact ih0 _ _ _ _ _ _ _
   | exact ih1 _ _ _ _ _ _ _
   | exact ih2 _ _ _
   | exact draw_Each.mono _ _
   | exact draw_Word.mono _ _ _ _
   | exact LeO.none _
   | refine LeO.ite ?_ ?_
   | refine LeO.bind ?_ (fun _ => ?_)
set_option maxHeartbeats 8000000 in
set_option maxRecDepth 100000 in
theorem tombolalaw08_DrawWords.calls (k : Nat) (a0 : Int) (a1 : Int) (a2 : Int) (a3 : Int) (r : Bool) (ht_ : Aside0 (r = true)) (w : World) (h : tombolalaw08_DrawWords.f k a0 a1 a2 a3 = some r) :
  Calls Try.prog 4 #[.int .u64 a0, .int .u64 a1, .int .u64 a2, .int .u64 a3] w fun e w' => e = .returned (.bool r) ∧ Below w.heap.size w w' := by
 have hu26 := Try.underlying26
 have HB := Aside0.mk (Below.refl w.heap.size w)
 have H : ((draw_Word.f k a0 a1 a2).bind fun bt101 => ((draw_Each.f k a0).bind fun bt103 => (if bt103.1 > 0 then (tombolalaw08_DrawWords.j0 k a0 a1 a2 a3 bt101.1 bt101.2 true) else (tombolalaw08_DrawWords.j0 k a0 a1 a2 a3 bt101.1 bt101.2 (decide (a2 < bt103.2)))))) = some r := h
 clear h
 replace H := Option.bind_eq_some_iff.mp H
 obtain ⟨⟨t101, t102⟩, A50, H⟩ := H
 replace H : ((draw_Each.f k a0).bind fun bt103 => (if bt103.1 > 0 then (tombolalaw08_DrawWords.j0 k a0 a1 a2 a3 t101 t102 true) else (tombolalaw08_DrawWords.j0 k a0 a1 a2 a3 t101 t102 (decide (a2 < bt103.2))))) = some r := H
 have A5 := Aside0.mk A50
 clear A50
 replace H := Option.bind_eq_some_iff.mp H
 obtain ⟨⟨t103, t104⟩, A60, H⟩ := H
 replace H : (if t103 > 0 then (tombolalaw08_DrawWords.j0 k a0 a1 a2 a3 t101 t102 true) else (tombolalaw08_DrawWords.j0 k a0 a1 a2 a3 t101 t102 (decide (a2 < t104)))) = some r := H
 have A6 := Aside0.mk A60
 clear A60
 have HC7 := Aside0.mk H
 clear H
 go_enter Try.func4, Try.ntmps4
 go_upto_region 3 with (first|((with_reducible refine gate_callee (f := 19) rfl ?_);refine goesL_ (some 23) rfl rfl Try.func19 (by kernel_rfl) rfl #[.int .u64 a0, .int .u64 a1, .int .u64 a2] rfl (by (try simp only [List.map_toArray, List.map_cons, List.map_nil]);first|done|rfl|(simp only [List.length_drop, List.length_take];rfl)) ?_;(with_reducible refine (draw_Word.calls k a0 a1 a2 t101 t102 _ A5.out).mono ?_);rintro e w8 ⟨rfl, hb⟩;refine ⟨_, rfl, ?_⟩;have n0_ := Aside0.mk (below_step (by repeat (first|(with_reducible first|exact HB.out|apply below_alloc|apply pw_below_drewN|apply below_drew1)|exact HB.out)) hb);clear HB;have HB := n0_;clear n0_;(try clear hb);(try clear hb2);(try clear hk);(try clear hi))|((with_reducible refine gate_callee (f := 17) rfl ?_);refine goesL_ (some 27) rfl rfl Try.func17 (by kernel_rfl) rfl #[.int .u64 a0] rfl (by (try simp only [List.map_toArray, List.map_cons, List.map_nil]);first|done|rfl|(simp only [List.length_drop, List.length_take];rfl)) ?_;(with_reducible refine (draw_Each.calls k a0 t103 t104 _ A6.out).mono ?_);rintro e w9 ⟨rfl, hb⟩;refine ⟨_, rfl, ?_⟩;have n0_ := Aside0.mk (below_step (by repeat (first|(with_reducible first|exact HB.out|apply below_alloc|apply pw_below_drewN|apply below_drew1)|exact HB.out)) hb);clear HB;have HB := n0_;clear n0_;(try clear hb);(try clear hb2);(try clear hk);(try clear hi))|((with_reducible refine gate_dst (N := 11) rfl ?_);refine box_event ?hg (N := 11) ?hd (cs := #[.int .u64 0, .int .u64 0]) (t := 26) ?hr ?_;(case hd => rfl);(case hg => rfl);(case hr => first|(go_simp;done)|(go_simp;rfl));intro gb105 hg w10 hbox hb;have n0_ := Aside0.mk (below_step (by repeat (first|(with_reducible first|exact HB.out|apply below_alloc|apply pw_below_drewN|apply below_drew1)|exact HB.out)) hb);have n1_ := Aside0.mk (hbox);have n2_ := Aside0.mk ((by rw [hg];exact (below_size (by repeat (first|(with_reducible first|exact HB.out|apply below_alloc|apply pw_below_drewN|apply below_drew1)|exact HB.out))) : w.heap.size ≤ gb105));have n3_ := Aside0.mk ((by rw [hg];exact (below_size (by repeat (first|(with_reducible first|exact HB.out|apply below_alloc|apply pw_below_drewN|apply below_drew1)|exact HB.out))) : w.heap.size ≤ gb105));clear HB;have HB := n0_;have BK105 := n1_;have GW105 := n2_;have GE105 := n3_;clear n0_ n1_ n2_ n3_;clear hb hbox hg;have hcz11_0 : w10.cell? ⟨gb105, 0, none⟩ = some (.int .u64 0) := (blk_cell BK105.out 0).trans rfl;have hcz11_1 : w10.cell? ⟨gb105, 1, none⟩ = some (.int .u64 0) := (blk_cell BK105.out 1).trans rfl;have hfz11_0 := blk_frozen BK105.out 0;have hfz11_1 := blk_frozen BK105.out 1))
 (try simp only [Act.put, List.setIfInBounds_toArray, List.set_cons_zero, List.set_cons_succ])
 go_cut [12] (fun v12 wc => ∃ (kq : Nat) (x12_6 : Bool), v12 = .bool x12_6 ∧ Aside0 (tombolalaw08_DrawWords.j0 kq a0 a1 a2 a3 t101 t102 x12_6 = some r) ∧ Aside0 (kq ≤ k) ∧ Aside0 (wc.heap[gb105]? = some (.cells #[.int .u64 t103, .int .u64 t104] 26 (0, 0))) ∧ Aside0 (Below w.heap.size w wc))
 case first =>
  have H := HC7.out
  clear HC7
  by_cases c12 : t103 > 0
  ·rw [if_pos c12] at H
   have c12b0 : decide (0 < t103) = true := decide_eq_true c12
   clear c12
   (first|rw [c12b0]|rw [c12b1]|(simp only [i64_w, i32_w];rw [c12b0])|skip)
   have H' := Aside0.mk H
   clear H
   have hcz13_0 : w10.cell? ⟨gb105, 0, none⟩ = some (.int .u64 0) := (blk_cell BK105.out 0).trans rfl
   have hcz13_1 : w10.cell? ⟨gb105, 1, none⟩ = some (.int .u64 0) := (blk_cell BK105.out 1).trans rfl
   have hfz13_0 := blk_frozen BK105.out 0
   have hfz13_1 := blk_frozen BK105.out 1
   go_wp2
   go_meet
   case rel => exact ⟨_, (true), (by first|rfl|(simp;done)|(simp [*];done)), H', ⟨by first|omega|exact Nat.le_refl _⟩, ⟨by (with_reducible repeat (first|refine blk_drewN ?_ _|refine blk_drew ?_|refine blk_alloc ?_ _));refine blk_put (cs := #[.int .u64 t103, .int .u64 0]) ?_ 1 _ rfl;(with_reducible repeat (first|refine blk_drewN ?_ _|refine blk_drew ?_|refine blk_alloc ?_ _));refine blk_put (cs := #[.int .u64 0, .int .u64 0]) ?_ 0 _ rfl;(with_reducible repeat (first|refine blk_drewN ?_ _|refine blk_drew ?_|refine blk_alloc ?_ _));exact BK105.out⟩, ⟨by repeat (first|(with_reducible first|exact HB.out|apply below_alloc|apply pw_below_drewN|apply below_drew1|refine below_set ?_ GE105.out)|exact HB.out)⟩⟩
  ·rw [if_neg c12] at H
   have c12b0 : decide (0 < t103) = false := decide_eq_false c12
   clear c12
   (first|rw [c12b0]|rw [c12b1]|(simp only [i64_w, i32_w];rw [c12b0])|skip)
   have H' := Aside0.mk H
   clear H
   have hcz14_0 : w10.cell? ⟨gb105, 0, none⟩ = some (.int .u64 0) := (blk_cell BK105.out 0).trans rfl
   have hcz14_1 : w10.cell? ⟨gb105, 1, none⟩ = some (.int .u64 0) := (blk_cell BK105.out 1).trans rfl
   have hfz14_0 := blk_frozen BK105.out 0
   have hfz14_1 := blk_frozen BK105.out 1
   go_wp2
   go_meet
   case rel => exact ⟨_, (decide (a2 < t104)), (by first|rfl|(simp;done)|(simp [*];done)), H', ⟨by first|omega|exact Nat.le_refl _⟩, ⟨by (with_reducible repeat (first|refine blk_drewN ?_ _|refine blk_drew ?_|refine blk_alloc ?_ _));refine blk_put (cs := #[.int .u64 t103, .int .u64 0]) ?_ 1 _ rfl;(with_reducible repeat (first|refine blk_drewN ?_ _|refine blk_drew ?_|refine blk_alloc ?_ _));refine blk_put (cs := #[.int .u64 0, .int .u64 0]) ?_ 0 _ rfl;(with_reducible repeat (first|refine blk_drewN ?_ _|refine blk_drew ?_|refine blk_alloc ?_ _));exact BK105.out⟩, ⟨by repeat (first|(with_reducible first|exact HB.out|apply below_alloc|apply pw_below_drewN|apply below_drew1|refine below_set ?_ GE105.out)|exact HB.out)⟩⟩
 case rest =>
  clear HC7
  try clear c1
  try clear p2
  try clear c4
  try clear c12
  try clear c12b0
  try clear c12b1
  try clear hcz11_0
  try clear hcz11_1
  try clear hcz13_0
  try clear hcz13_1
  try clear hcz14_0
  try clear hcz14_1
  try clear hfz11_0
  try clear hfz11_1
  try clear hfz13_0
  try clear hfz13_1
  try clear hfz14_0
  try clear hfz14_1
  obtain ⟨kq, x12_6, rfl, HA, HJ6, BK105, HB⟩ := hcut
  cases kq with
  | zero => exact absurd HA.out (by simp [tombolalaw08_DrawWords.j0])
  | succ kj6 =>
   have H := HA.out
   clear HA
   simp only [tombolalaw08_DrawWords.j0] at H
   have HC15 := Aside0.mk H
   clear H
   go_upto_region 4 with (fail)
   go_cut [52] (fun v52 wc => ∃ (kq : Nat) (x52_14 : Bool), v52 = .bool x52_14 ∧ Aside0 (tombolalaw08_DrawWords.j1 kq a0 a1 a2 a3 t101 t102 x52_14 = some r) ∧ Aside0 (kq ≤ kj6) ∧ Aside0 (wc.heap[gb105]? = some (.cells #[.int .u64 t103, .int .u64 t104] 26 (0, 0))) ∧ Aside0 (Below w.heap.size w wc))
   case first =>
    have H := HC15.out
    clear HC15
    by_cases c16 : a1 < a0
    ·rw [if_pos c16] at H
     have c16b0 : decide (a1 < a0) = true := decide_eq_true c16
     clear c16
     (first|rw [c16b0]|rw [c16b1]|(simp only [i64_w, i32_w];rw [c16b0])|skip)
     by_cases c17 : (t102 != x12_6) = true
     ·rw [if_pos c17] at H
      have c17b0 : (t102 != x12_6) = true := c17
      (try (have c17b1 : decide (t102 = x12_6) = false := by simpa using c17))
      (try (have c17b2 : (t102 == x12_6) = false := by simpa using c17))
      (try (have c17b3 : ¬ (t102 = x12_6) := by simpa using c17))
      clear c17
      have hr_ := ht_.out
      subst hr_
      exact absurd H (by cases kj6 <;> simp [tombolalaw08_DrawWords.j1])
     ·rw [if_neg c17] at H
      have c17b0 : (t102 != x12_6) = false := by simpa using c17
      (try (have c17b1 : decide (t102 = x12_6) = true := by simpa using c17))
      (try (have c17b2 : (t102 == x12_6) = true := by simpa using c17))
      clear c17
      by_cases c18 : t102 = true
      ·subst c18
       have H1 : (tombolalaw08_DrawWords.j1 kj6 a0 a1 a2 a3 t101 true false) = some r := by rw [if_pos rfl] at H;exact H
       clear H
       have H := H1
       clear H1
       have H' := Aside0.mk H
       clear H
       go_wp2
       go_meet
       case rel => exact ⟨_, (false), (by first|rfl|(simp;done)|(simp [*];done)), H', ⟨by have := HJ6.out;first|omega|exact Nat.le_refl _⟩, ⟨by (with_reducible repeat (first|refine blk_drewN ?_ _|refine blk_drew ?_|refine blk_alloc ?_ _));exact BK105.out⟩, ⟨by repeat (first|(with_reducible first|exact HB.out|apply below_alloc|apply pw_below_drewN|apply below_drew1|refine below_set ?_ GE105.out)|exact HB.out)⟩⟩
      ·replace c18 := Bool.eq_false_iff.mpr c18
       subst c18
       have H1 : (tombolalaw08_DrawWords.j1 kj6 a0 a1 a2 a3 t101 false (t101 != 0)) = some r := by rw [if_neg (show ¬ (false = true) by decide)] at H;exact H
       clear H
       have H := H1
       clear H1
       have H' := Aside0.mk H
       clear H
       go_wp2
       go_meet
       case rel => exact ⟨_, ((t101 != 0)), (by first|rfl|(simp;done)|(simp [*];done)), H', ⟨by have := HJ6.out;first|omega|exact Nat.le_refl _⟩, ⟨by (with_reducible repeat (first|refine blk_drewN ?_ _|refine blk_drew ?_|refine blk_alloc ?_ _));exact BK105.out⟩, ⟨by repeat (first|(with_reducible first|exact HB.out|apply below_alloc|apply pw_below_drewN|apply below_drew1|refine below_set ?_ GE105.out)|exact HB.out)⟩⟩
    ·rw [if_neg c16] at H
     have c16b0 : decide (a1 < a0) = false := decide_eq_false c16
     clear c16
     (first|rw [c16b0]|rw [c16b1]|(simp only [i64_w, i32_w];rw [c16b0])|skip)
     by_cases c19 : (t102 != false) = true
     ·rw [if_pos c19] at H
      have c19b0 : (t102 != false) = true := c19
      (try (have c19b1 : decide (t102 = false) = false := by simpa using c19))
      (try (have c19b2 : (t102 == false) = false := by simpa using c19))
      (try (have c19b3 : ¬ (t102 = false) := by simpa using c19))
      clear c19
      have hr_ := ht_.out
      subst hr_
      exact absurd H (by cases kj6 <;> simp [tombolalaw08_DrawWords.j1])
     ·rw [if_neg c19] at H
      have c19b0 : (t102 != false) = false := by simpa using c19
      (try (have c19b1 : decide (t102 = false) = true := by simpa using c19))
      (try (have c19b2 : (t102 == false) = true := by simpa using c19))
      clear c19
      by_cases c20 : t102 = true
      ·subst c20
       have H1 : (tombolalaw08_DrawWords.j1 kj6 a0 a1 a2 a3 t101 true false) = some r := by rw [if_pos rfl] at H;exact H
       clear H
       have H := H1
       clear H1
       have H' := Aside0.mk H
       clear H
       go_wp2
       go_meet
       case rel => exact ⟨_, (false), (by first|rfl|(simp;done)|(simp [*];done)), H', ⟨by have := HJ6.out;first|omega|exact Nat.le_refl _⟩, ⟨by (with_reducible repeat (first|refine blk_drewN ?_ _|refine blk_drew ?_|refine blk_alloc ?_ _));exact BK105.out⟩, ⟨by repeat (first|(with_reducible first|exact HB.out|apply below_alloc|apply pw_below_drewN|apply below_drew1|refine below_set ?_ GE105.out)|exact HB.out)⟩⟩
      ·replace c20 := Bool.eq_false_iff.mpr c20
       subst c20
       have H1 : (tombolalaw08_DrawWords.j1 kj6 a0 a1 a2 a3 t101 false (t101 != 0)) = some r := by rw [if_neg (show ¬ (false = true) by decide)] at H;exact H
       clear H
       have H := H1
       clear H1
       have H' := Aside0.mk H
       clear H
       go_wp2
       go_meet
       case rel => exact ⟨_, ((t101 != 0)), (by first|rfl|(simp;done)|(simp [*];done)), H', ⟨by have := HJ6.out;first|omega|exact Nat.le_refl _⟩, ⟨by (with_reducible repeat (first|refine blk_drewN ?_ _|refine blk_drew ?_|refine blk_alloc ?_ _));exact BK105.out⟩, ⟨by repeat (first|(with_reducible first|exact HB.out|apply below_alloc|apply pw_below_drewN|apply below_drew1|refine below_set ?_ GE105.out)|exact HB.out)⟩⟩
   case rest =>
    clear HC15
    try clear c1
    try clear c2
    try clear p2
    try clear c4
    try clear c12
    try clear c12b0
    try clear c12b1
    try clear c16
    try clear c16b0
    try clear c16b1
    try clear c17
    try clear c17b0
    try clear c17b1
    try clear c17b2
    try clear c18
    try clear c19
    try clear c19b0
    try clear c19b1
    try clear c19b2
    try clear c20
    try clear hcz11_0
    try clear hcz11_1
    try clear hcz13_0
    try clear hcz13_1
    try clear hcz14_0
    try clear hcz14_1
    try clear hfz11_0
    try clear hfz11_1
    try clear hfz13_0
    try clear hfz13_1
    try clear hfz14_0
    try clear hfz14_1
    try clear p2
    obtain ⟨kq, x52_14, rfl, HA, HJ14, BK105, HB⟩ := hcut
    cases kq with
    | zero => exact absurd HA.out (by simp [tombolalaw08_DrawWords.j1])
    | succ kj14 =>
     have H := HA.out
     clear HA
     simp only [tombolalaw08_DrawWords.j1] at H
     by_cases c21 : x52_14 = true
     ·subst c21
      have H1 : (some false) = some r := by rw [if_pos rfl] at H;exact H
      clear H
      have H := H1
      clear H1
      exact absurd ((Option.some.inj H).trans ht_.out) (by simp)
     ·replace c21 := Bool.eq_false_iff.mpr c21
      subst c21
      have H1 : ((draw_Tell.f a0 t101).bind fun bt106 => (if t102 = true then (if bt106.2 = true then (if bt106.1 = a1 then (if a0 = 0 then (none) else (tombolalaw08_DrawWords.j2 kj14 a0 a3 ((IntKind.u64.wrap (Int.tdiv t101 a0)) != a2))) else (tombolalaw08_DrawWords.j2 kj14 a0 a3 true)) else (tombolalaw08_DrawWords.j2 kj14 a0 a3 true)) else (tombolalaw08_DrawWords.j2 kj14 a0 a3 false))) = some r := by rw [if_neg (show ¬ (false = true) by decide)] at H;exact H
      clear H
      have H := H1
      clear H1
      replace H := Option.bind_eq_some_iff.mp H
      obtain ⟨⟨t106, t107⟩, A220, H⟩ := H
      replace H : (if t102 = true then (if t107 = true then (if t106 = a1 then (if a0 = 0 then (none) else (tombolalaw08_DrawWords.j2 kj14 a0 a3 ((IntKind.u64.wrap (Int.tdiv t101 a0)) != a2))) else (tombolalaw08_DrawWords.j2 kj14 a0 a3 true)) else (tombolalaw08_DrawWords.j2 kj14 a0 a3 true)) else (tombolalaw08_DrawWords.j2 kj14 a0 a3 false)) = some r := H
      have A22 := Aside0.mk A220
      clear A220
      have HC23 := Aside0.mk H
      clear H
      go_upto_region 7 with (first|((with_reducible refine gate_callee (f := 10) rfl ?_);refine goesL_ (some 56) rfl rfl Try.func10 (by kernel_rfl) rfl #[.int .u64 a0, .int .u64 t101] rfl (by (try simp only [List.map_toArray, List.map_cons, List.map_nil]);first|done|rfl|(simp only [List.length_drop, List.length_take];rfl)) ?_;(with_reducible refine (draw_Tell.calls a0 t101 t106 t107 _ A22.out).mono ?_);rintro e w' ⟨rfl, ⟨nd, rfl⟩⟩;refine ⟨_, rfl, ?_⟩))
      (try simp only [Act.put, List.setIfInBounds_toArray, List.set_cons_zero, List.set_cons_succ])
      go_cut [75] (fun v75 wc => ∃ (kq : Nat) (x75_22 : Bool), v75 = .bool x75_22 ∧ Aside0 (tombolalaw08_DrawWords.j2 kq a0 a3 x75_22 = some r) ∧ Aside0 (kq ≤ kj14) ∧ Aside0 (wc.heap[gb105]? = some (.cells #[.int .u64 t103, .int .u64 t104] 26 (0, 0))) ∧ Aside0 (Below w.heap.size w wc))
      case first =>
       have H := HC23.out
       clear HC23
       by_cases c24 : t102 = true
       ·subst c24
        have H1 : (if t107 = true then (if t106 = a1 then (if a0 = 0 then (none) else (tombolalaw08_DrawWords.j2 kj14 a0 a3 ((IntKind.u64.wrap (Int.tdiv t101 a0)) != a2))) else (tombolalaw08_DrawWords.j2 kj14 a0 a3 true)) else (tombolalaw08_DrawWords.j2 kj14 a0 a3 true)) = some r := by rw [if_pos rfl] at H;exact H
        clear H
        have H := H1
        clear H1
        by_cases c25 : t107 = true
        ·subst c25
         have H1 : (if t106 = a1 then (if a0 = 0 then (none) else (tombolalaw08_DrawWords.j2 kj14 a0 a3 ((IntKind.u64.wrap (Int.tdiv t101 a0)) != a2))) else (tombolalaw08_DrawWords.j2 kj14 a0 a3 true)) = some r := by rw [if_pos rfl] at H;exact H
         clear H
         have H := H1
         clear H1
         by_cases c26 : t106 = a1
         ·rw [if_pos c26] at H
          have c26b0 : (t106 == a1) = true := beq_iff_eq.mpr c26
          have c26b1 : (t106 != a1) = false := bne_eq_false_iff_eq.mpr c26
          clear c26
          (first|rw [c26b0]|rw [c26b1]|(simp only [i64_w, i32_w];rw [c26b0])|skip)
          by_cases c27 : a0 = 0
          ·rw [if_pos c27] at H
           exact absurd H (by simp)
          ·rw [if_neg c27] at H
           have c27b0 : (a0 == 0) = false := beq_eq_false_iff_ne.mpr c27
           have c27b1 : (a0 != 0) = true := bne_iff_ne.mpr c27
           have H' := Aside0.mk H
           clear H
           go_wp2
           go_meet
           case rel => exact ⟨_, (((IntKind.u64.wrap (Int.tdiv t101 a0)) != a2)), (by first|rfl|(simp;done)|(simp [*];done)), H', ⟨by have := HJ6.out;have := HJ14.out;first|omega|exact Nat.le_refl _⟩, ⟨by (with_reducible repeat (first|refine blk_drewN ?_ _|refine blk_drew ?_|refine blk_alloc ?_ _));exact BK105.out⟩, ⟨by repeat (first|(with_reducible first|exact HB.out|apply below_alloc|apply pw_below_drewN|apply below_drew1|refine below_set ?_ GE105.out)|exact HB.out)⟩⟩
         ·rw [if_neg c26] at H
          have c26b0 : (t106 == a1) = false := beq_eq_false_iff_ne.mpr c26
          have c26b1 : (t106 != a1) = true := bne_iff_ne.mpr c26
          (first|rw [c26b0]|rw [c26b1]|(simp only [i64_w, i32_w];rw [c26b0])|skip)
          have hr_ := ht_.out
          subst hr_
          exact absurd H (by cases kj14 <;> simp [tombolalaw08_DrawWords.j2])
        ·replace c25 := Bool.eq_false_iff.mpr c25
         subst c25
         have H1 : (tombolalaw08_DrawWords.j2 kj14 a0 a3 true) = some r := by rw [if_neg (show ¬ (false = true) by decide)] at H;exact H
         clear H
         have H := H1
         clear H1
         have hr_ := ht_.out
         subst hr_
         exact absurd H (by cases kj14 <;> simp [tombolalaw08_DrawWords.j2])
       ·replace c24 := Bool.eq_false_iff.mpr c24
        subst c24
        have H1 : (tombolalaw08_DrawWords.j2 kj14 a0 a3 false) = some r := by rw [if_neg (show ¬ (false = true) by decide)] at H;exact H
        clear H
        have H := H1
        clear H1
        have H' := Aside0.mk H
        clear H
        go_wp2
        go_meet
        case rel => exact ⟨_, (false), (by first|rfl|(simp;done)|(simp [*];done)), H', ⟨by have := HJ6.out;have := HJ14.out;first|omega|exact Nat.le_refl _⟩, ⟨by (with_reducible repeat (first|refine blk_drewN ?_ _|refine blk_drew ?_|refine blk_alloc ?_ _));exact BK105.out⟩, ⟨by repeat (first|(with_reducible first|exact HB.out|apply below_alloc|apply pw_below_drewN|apply below_drew1|refine below_set ?_ GE105.out)|exact HB.out)⟩⟩
      case rest =>
       clear HC23
       try clear c1
       try clear c2
       try clear p2
       try clear c4
       try clear c10
       try clear c12
       try clear c12b0
       try clear c12b1
       try clear c16
       try clear c16b0
       try clear c16b1
       try clear c17
       try clear c17b0
       try clear c17b1
       try clear c17b2
       try clear c18
       try clear c19
       try clear c19b0
       try clear c19b1
       try clear c19b2
       try clear c20
       try clear c21
       try clear c24
       try clear c25
       try clear c26
       try clear c26b0
       try clear c26b1
       try clear c27
       try clear c27b0
       try clear c27b1
       try clear hcz11_0
       try clear hcz11_1
       try clear hcz13_0
       try clear hcz13_1
       try clear hcz14_0
       try clear hcz14_1
       try clear hfz11_0
       try clear hfz11_1
       try clear hfz13_0
       try clear hfz13_1
       try clear hfz14_0
       try clear hfz14_1
       try clear p2
       obtain ⟨kq, x75_22, rfl, HA, HJ22, BK105, HB⟩ := hcut
       cases kq with
       | zero => exact absurd HA.out (by simp [tombolalaw08_DrawWords.j2])
       | succ kj22 =>
        have H := HA.out
        clear HA
        simp only [tombolalaw08_DrawWords.j2] at H
        by_cases c28 : x75_22 = true
        ·subst c28
         have H1 : (some false) = some r := by rw [if_pos rfl] at H;exact H
         clear H
         have H := H1
         clear H1
         exact absurd ((Option.some.inj H).trans ht_.out) (by simp)
        ·replace c28 := Bool.eq_false_iff.mpr c28
         subst c28
         have H1 : ((draw_Tell.f a0 a3).bind fun bt108 => (if bt108.2 = true then (if a0 = 0 then (none) else ((draw_Word.f kj22 a0 bt108.1 (IntKind.u64.wrap (Int.tdiv a3 a0))).bind fun bt110 => (if bt110.2 = true then (if bt110.1 = a3 then ((tombolalaw08_alive.f).bind fun t112 => (some t112)) else (some false)) else (some false)))) else ((tombolalaw08_alive.f).bind fun t113 => (some t113)))) = some r := by rw [if_neg (show ¬ (false = true) by decide)] at H;exact H
         clear H
         have H := H1
         clear H1
         replace H := Option.bind_eq_some_iff.mp H
         obtain ⟨⟨t108, t109⟩, A290, H⟩ := H
         replace H : (if t109 = true then (if a0 = 0 then (none) else ((draw_Word.f kj22 a0 t108 (IntKind.u64.wrap (Int.tdiv a3 a0))).bind fun bt110 => (if bt110.2 = true then (if bt110.1 = a3 then ((tombolalaw08_alive.f).bind fun t112 => (some t112)) else (some false)) else (some false)))) else ((tombolalaw08_alive.f).bind fun t113 => (some t113))) = some r := H
         have A29 := Aside0.mk A290
         clear A290
         by_cases c30 : t109 = true
         ·subst c30
          have H1 : (if a0 = 0 then (none) else ((draw_Word.f kj22 a0 t108 (IntKind.u64.wrap (Int.tdiv a3 a0))).bind fun bt110 => (if bt110.2 = true then (if bt110.1 = a3 then ((tombolalaw08_alive.f).bind fun t112 => (some t112)) else (some false)) else (some false)))) = some r := by rw [if_pos rfl] at H;exact H
          clear H
          have H := H1
          clear H1
          by_cases c31 : a0 = 0
          ·rw [if_pos c31] at H
           exact absurd H (by simp)
          ·rw [if_neg c31] at H
           have c31b0 : (a0 == 0) = false := beq_eq_false_iff_ne.mpr c31
           have c31b1 : (a0 != 0) = true := bne_iff_ne.mpr c31
           replace H := Option.bind_eq_some_iff.mp H
           obtain ⟨⟨t110, t111⟩, A320, H⟩ := H
           replace H : (if t111 = true then (if t110 = a3 then ((tombolalaw08_alive.f).bind fun t112 => (some t112)) else (some false)) else (some false)) = some r := H
           have A32 := Aside0.mk A320
           clear A320
           by_cases c33 : t111 = true
           ·subst c33
            have H1 : (if t110 = a3 then ((tombolalaw08_alive.f).bind fun t112 => (some t112)) else (some false)) = some r := by rw [if_pos rfl] at H;exact H
            clear H
            have H := H1
            clear H1
            by_cases c34 : t110 = a3
            ·rw [if_pos c34] at H
             have c34b0 : (t110 == a3) = true := beq_iff_eq.mpr c34
             have c34b1 : (t110 != a3) = false := bne_eq_false_iff_eq.mpr c34
             clear c34
             replace H := Option.bind_eq_some_iff.mp H
             obtain ⟨t112, A350, H⟩ := H
             replace H : (some t112) = some r := H
             have A35 := Aside0.mk A350
             clear A350
             obtain rfl := Option.some.inj H
             go_wp2_with (first|((with_reducible refine gate_callee (f := 10) rfl ?_);refine goesL_ (some 79) rfl rfl Try.func10 (by kernel_rfl) rfl #[.int .u64 a0, .int .u64 a3] rfl (by (try simp only [List.map_toArray, List.map_cons, List.map_nil]);first|done|rfl|(simp only [List.length_drop, List.length_take];rfl)) ?_;(with_reducible refine (draw_Tell.calls a0 a3 t108 true _ A29.out).mono ?_);rintro e w' ⟨rfl, ⟨nd, rfl⟩⟩;refine ⟨_, rfl, ?_⟩)|((with_reducible refine gate_callee (f := 19) rfl ?_);refine goesL_ (some 89) rfl rfl Try.func19 (by kernel_rfl) rfl #[.int .u64 a0, .int .u64 t108, .int .u64 (IntKind.u64.wrap (Int.tdiv a3 a0))] rfl (by (try simp only [List.map_toArray, List.map_cons, List.map_nil]);first|done|rfl|(simp only [List.length_drop, List.length_take];rfl)) ?_;(with_reducible refine (draw_Word.calls kj22 a0 t108 (IntKind.u64.wrap (Int.tdiv a3 a0)) t110 true _ A32.out).mono ?_);rintro e w36 ⟨rfl, hb⟩;refine ⟨_, rfl, ?_⟩;have n0_ := Aside0.mk (blk_below (g := gb105) (o := .cells #[.int .u64 t103, .int .u64 t104] 26 (0, 0)) (by (with_reducible repeat (first|refine blk_drewN ?_ _|refine blk_drew ?_|refine blk_alloc ?_ _));exact BK105.out) hb);have n1_ := Aside0.mk (below_step (by repeat (first|(with_reducible first|exact HB.out|apply below_alloc|apply pw_below_drewN|apply below_drew1|refine below_set ?_ GE105.out)|exact HB.out)) hb);clear BK105;clear HB;have BK105 := n0_;have HB := n1_;clear n0_ n1_;(try clear hb);(try clear hb2);(try clear hk);(try clear hi))|(go_at_call 18;(with_reducible refine (tombolalaw08_alive.calls  t112 _ A35.out).mono ?_);rintro e w37 ⟨rfl, hb⟩;have n0_ := Aside0.mk (blk_below (g := gb105) (o := .cells #[.int .u64 t103, .int .u64 t104] 26 (0, 0)) (by (with_reducible repeat (first|refine blk_drewN ?_ _|refine blk_drew ?_|refine blk_alloc ?_ _));exact BK105.out) hb);have n1_ := Aside0.mk (below_step (by repeat (first|(with_reducible first|exact HB.out|apply below_alloc|apply pw_below_drewN|apply below_drew1|refine below_set ?_ GE105.out)|exact HB.out)) hb);clear BK105;clear HB;have BK105 := n0_;have HB := n1_;clear n0_ n1_;(try clear hb);(try clear hb2);(try clear hk);(try clear hi)))
             go_ret
             exact ⟨by first|rfl|(simp [errW_none, errW_some] <;> rfl)|(simp [*, errW_none, errW_some] <;> rfl), by repeat (first|(with_reducible first|exact HB.out|apply below_alloc|apply pw_below_drewN|apply below_drew1|refine below_set ?_ GE105.out)|exact HB.out)⟩
            ·rw [if_neg c34] at H
             have c34b0 : (t110 == a3) = false := beq_eq_false_iff_ne.mpr c34
             have c34b1 : (t110 != a3) = true := bne_iff_ne.mpr c34
             exact absurd ((Option.some.inj H).trans ht_.out) (by simp)
           ·replace c33 := Bool.eq_false_iff.mpr c33
            subst c33
            have H1 : (some false) = some r := by rw [if_neg (show ¬ (false = true) by decide)] at H;exact H
            clear H
            have H := H1
            clear H1
            exact absurd ((Option.some.inj H).trans ht_.out) (by simp)
         ·replace c30 := Bool.eq_false_iff.mpr c30
          subst c30
          have H1 : ((tombolalaw08_alive.f).bind fun t113 => (some t113)) = some r := by rw [if_neg (show ¬ (false = true) by decide)] at H;exact H
          clear H
          have H := H1
          clear H1
          replace H := Option.bind_eq_some_iff.mp H
          obtain ⟨t113, A380, H⟩ := H
          replace H : (some t113) = some r := H
          have A38 := Aside0.mk A380
          clear A380
          obtain rfl := Option.some.inj H
          go_wp2_with (first|((with_reducible refine gate_callee (f := 10) rfl ?_);refine goesL_ (some 79) rfl rfl Try.func10 (by kernel_rfl) rfl #[.int .u64 a0, .int .u64 a3] rfl (by (try simp only [List.map_toArray, List.map_cons, List.map_nil]);first|done|rfl|(simp only [List.length_drop, List.length_take];rfl)) ?_;(with_reducible refine (draw_Tell.calls a0 a3 t108 false _ A29.out).mono ?_);rintro e w' ⟨rfl, ⟨nd, rfl⟩⟩;refine ⟨_, rfl, ?_⟩)|((with_reducible refine gate_callee (f := 18) rfl ?_);refine goesL_ (some 101) rfl rfl Try.func18 (by kernel_rfl) rfl #[] rfl (by (try simp only [List.map_toArray, List.map_cons, List.map_nil]);first|done|rfl|(simp only [List.length_drop, List.length_take];rfl)) ?_;(with_reducible refine (tombolalaw08_alive.calls  t113 _ A38.out).mono ?_);rintro e w39 ⟨rfl, hb⟩;refine ⟨_, rfl, ?_⟩;have n0_ := Aside0.mk (blk_below (g := gb105) (o := .cells #[.int .u64 t103, .int .u64 t104] 26 (0, 0)) (by (with_reducible repeat (first|refine blk_drewN ?_ _|refine blk_drew ?_|refine blk_alloc ?_ _));exact BK105.out) hb);have n1_ := Aside0.mk (below_step (by repeat (first|(with_reducible first|exact HB.out|apply below_alloc|apply pw_below_drewN|apply below_drew1|refine below_set ?_ GE105.out)|exact HB.out)) hb);clear BK105;clear HB;have BK105 := n0_;have HB := n1_;clear n0_ n1_;(try clear hb);(try clear hb2);(try clear hk);(try clear hi)))
          go_ret
          exact ⟨by first|rfl|(simp [errW_none, errW_some] <;> rfl)|(simp [*, errW_none, errW_some] <;> rfl), by repeat (first|(with_reducible first|exact HB.out|apply below_alloc|apply pw_below_drewN|apply below_drew1|refine below_set ?_ GE105.out)|exact HB.out)⟩

/-- THE ONE PURE STATEMENT of tombolalaw08_DrawWords: yours. -/
def tombolalaw08_DrawWords.Pure : Prop := ∀ (a0 : Int) (a1 : Int) (a2 : Int) (a3 : Int), (Lit.int .u64 a0).wf = true → (Lit.int .u64 a1).wf = true → (Lit.int .u64 a2).wf = true → (Lit.int .u64 a3).wf = true → ∃ k, tombolalaw08_DrawWords.f k a0 a1 a2 a3 = some true
theorem tombolalaw08_DrawWords.walk (P : tombolalaw08_DrawWords.Pure) (a0 : Int) (a1 : Int) (a2 : Int) (a3 : Int) (w : World) (w0 : (Lit.int .u64 a0).wf = true) (w1 : (Lit.int .u64 a1).wf = true) (w2 : (Lit.int .u64 a2).wf = true) (w3 : (Lit.int .u64 a3).wf = true) :
  Calls Try.prog 4 #[.int .u64 a0, .int .u64 a1, .int .u64 a2, .int .u64 a3] w fun e w' => e = .returned (.bool true) ∧ Below w.heap.size w w' := by
 obtain ⟨k, h⟩ := P a0 a1 a2 a3 w0 w1 w2 w3
 refine (tombolalaw08_DrawWords.calls k a0 a1 a2 a3 true ⟨rfl⟩ w h).mono ?_
 rintro e w' ⟨rfl, hd⟩
 exact ⟨rfl, hd⟩

end Go.Proofs.Ytjphoempoinedaa.F
