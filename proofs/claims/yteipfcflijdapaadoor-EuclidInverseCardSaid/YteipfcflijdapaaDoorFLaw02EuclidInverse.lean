-- Cut for this claim by a program (wip/prune.py) out of the texts that its bench laid or wrote
import Derived.Test.YteipfcflijdapaaDoorDigs
import Derived.Test.YteipfcflijdapaaDoorFRef01A
import Derived.Test.YteipfcflijdapaaDoorFRef01B
import Derived.Test.YteipfcflijdapaaDoorFRef02A
import Derived.Test.YteipfcflijdapaaDoorFEuclidA
import Derived.Test.YteipfcflijdapaaDoorFLaw02alive
namespace Go.Proofs.YteipfcflijdapaaDoor.F
open Go.RowKit Go.Proofs.YteipfcflijdapaaDoorW.PrintWords Go.Proofs.YteipfcflijdapaaDoorW.PrintLast Go.Proofs.YteipfcflijdapaaDoorW.PrintMore
attribute [local go_sem] max2_int min2_int max_two min_two max_three min_three max_four min_four
set_option linter.unusedVariables false
set_option linter.unusedSimpArgs false
mutual
def tombolalaw02_EuclidInverse.j0 : Nat → Int → Int → Bool → Option (Bool)
 | 0, _, _, _ => none
 | k + 1, x0, x1, x47 => if x47 = true then (some false) else ((euclid_Lcm.f k (([x0, x1] : List Int))).bind fun bt109 => (if bt109.2 = true then (if x0 = 0 then (tombolalaw02_EuclidInverse.j1 k x0 x1 bt109.1 true) else (tombolalaw02_EuclidInverse.j1 k x0 x1 bt109.1 (x1 == 0))) else (tombolalaw02_EuclidInverse.j1 k x0 x1 bt109.1 true)))
def tombolalaw02_EuclidInverse.j1 : Nat → Int → Int → Int → Bool → Option (Bool)
 | 0, _, _, _, _ => none
 | k + 1, x0, x1, x7, x64 => if x64 = true then ((tombolalaw02_alive.f k).bind fun t111 => (some t111)) else ((tombolaref01_Of.f k x7).bind fun t112 => ((euclid_Gcd.f k (([x0, x1] : List Int))).bind fun t118 => ((tombolaref01_Of.f k t118).bind fun t119 => ((tombolaref01_Mul.f k t112 t119).bind fun t122 => ((tombolaref01_Of.f k x0).bind fun t125 => ((tombolaref01_Of.f k x1).bind fun t128 => ((tombolaref01_Mul.f k t125 t128).bind fun t131 => ((tombolaref01_Cmp.f k t122 t131).bind fun t134 => (if t134 = 0 then ((tombolalaw02_alive.f k).bind fun t135 => (some t135)) else (some false))))))))))
end
def tombolalaw02_EuclidInverse.f (k : Nat) (a0 : Int) (a1 : Int) : Option (Bool) := (euclid_Inverse.f k a0 a1).bind fun bt101 => (if a1 ≥ 2 then ((tombolaref02_Gcd.f k a0 a1).bind fun t103 => (if (bt101.2 != (t103 == 1)) = true then (tombolalaw02_EuclidInverse.j0 k a0 a1 true) else (if bt101.2 = true then (if bt101.1 ≥ a1 then (tombolalaw02_EuclidInverse.j0 k a0 a1 true) else ((tombolaref02_MulMod.f k a0 bt101.1 a1).bind fun t104 => (tombolalaw02_EuclidInverse.j0 k a0 a1 (t104 != 1)))) else (if bt101.1 = 0 then (tombolalaw02_EuclidInverse.j0 k a0 a1 false) else (tombolalaw02_EuclidInverse.j0 k a0 a1 true))))) else (if (bt101.2 != false) = true then (tombolalaw02_EuclidInverse.j0 k a0 a1 true) else (if bt101.2 = true then (if bt101.1 ≥ a1 then (tombolalaw02_EuclidInverse.j0 k a0 a1 true) else ((tombolaref02_MulMod.f k a0 bt101.1 a1).bind fun t105 => (tombolalaw02_EuclidInverse.j0 k a0 a1 (t105 != 1)))) else (if bt101.1 = 0 then (tombolalaw02_EuclidInverse.j0 k a0 a1 false) else (tombolalaw02_EuclidInverse.j0 k a0 a1 true)))))
set_option maxHeartbeats 8000000 in
set_option maxRecDepth 100000 in
theorem tombolalaw02_EuclidInverse.calls (k : Nat) (a0 : Int) (a1 : Int) (r : Bool) (ht_ : Aside0 (r = true)) (w : World) (h : tombolalaw02_EuclidInverse.f k a0 a1 = some r) (HT : Aside0 (Tab w)) :
  Calls Tryd.prog 3 #[.int .u64 a0, .int .u64 a1] w fun e w' => e = .returned (.bool r) ∧ Below w.heap.size w w' := by
 have HB := Aside0.mk (Below.refl w.heap.size w)
 have H : ((euclid_Inverse.f k a0 a1).bind fun bt101 => (if a1 ≥ 2 then ((tombolaref02_Gcd.f k a0 a1).bind fun t103 => (if (bt101.2 != (t103 == 1)) = true then (tombolalaw02_EuclidInverse.j0 k a0 a1 true) else (if bt101.2 = true then (if bt101.1 ≥ a1 then (tombolalaw02_EuclidInverse.j0 k a0 a1 true) else ((tombolaref02_MulMod.f k a0 bt101.1 a1).bind fun t104 => (tombolalaw02_EuclidInverse.j0 k a0 a1 (t104 != 1)))) else (if bt101.1 = 0 then (tombolalaw02_EuclidInverse.j0 k a0 a1 false) else (tombolalaw02_EuclidInverse.j0 k a0 a1 true))))) else (if (bt101.2 != false) = true then (tombolalaw02_EuclidInverse.j0 k a0 a1 true) else (if bt101.2 = true then (if bt101.1 ≥ a1 then (tombolalaw02_EuclidInverse.j0 k a0 a1 true) else ((tombolaref02_MulMod.f k a0 bt101.1 a1).bind fun t105 => (tombolalaw02_EuclidInverse.j0 k a0 a1 (t105 != 1)))) else (if bt101.1 = 0 then (tombolalaw02_EuclidInverse.j0 k a0 a1 false) else (tombolalaw02_EuclidInverse.j0 k a0 a1 true)))))) = some r := h
 clear h
 replace H := Option.bind_eq_some_iff.mp H
 obtain ⟨⟨t101, t102⟩, A30, H⟩ := H
 replace H : (if a1 ≥ 2 then ((tombolaref02_Gcd.f k a0 a1).bind fun t103 => (if (t102 != (t103 == 1)) = true then (tombolalaw02_EuclidInverse.j0 k a0 a1 true) else (if t102 = true then (if t101 ≥ a1 then (tombolalaw02_EuclidInverse.j0 k a0 a1 true) else ((tombolaref02_MulMod.f k a0 t101 a1).bind fun t104 => (tombolalaw02_EuclidInverse.j0 k a0 a1 (t104 != 1)))) else (if t101 = 0 then (tombolalaw02_EuclidInverse.j0 k a0 a1 false) else (tombolalaw02_EuclidInverse.j0 k a0 a1 true))))) else (if (t102 != false) = true then (tombolalaw02_EuclidInverse.j0 k a0 a1 true) else (if t102 = true then (if t101 ≥ a1 then (tombolalaw02_EuclidInverse.j0 k a0 a1 true) else ((tombolaref02_MulMod.f k a0 t101 a1).bind fun t105 => (tombolalaw02_EuclidInverse.j0 k a0 a1 (t105 != 1)))) else (if t101 = 0 then (tombolalaw02_EuclidInverse.j0 k a0 a1 false) else (tombolalaw02_EuclidInverse.j0 k a0 a1 true))))) = some r := H
 have A3 := Aside0.mk A30
 clear A30
 have HC4 := Aside0.mk H
 clear H
 go_enter Tryd.func3, Tryd.ntmps3
 go_upto_region 2 with (first|((with_reducible refine gate_callee (f := 6) rfl ?_);refine goesL_ (some 12) rfl rfl Tryd.func6 (by kernel_rfl) rfl #[.int .u64 a0, .int .u64 a1] rfl (by (try simp only [List.map_toArray, List.map_cons, List.map_nil]);first|done|rfl|(simp only [List.length_drop, List.length_take];rfl)) ?_;(with_reducible refine (euclid_Inverse.calls k a0 a1 t101 t102 _ A3.out).mono ?_);rintro e w5 ⟨rfl, hb⟩;refine ⟨_, rfl, ?_⟩;have n0_ := Aside0.mk (below_step (by repeat (first|(with_reducible first|exact HB.out|apply below_alloc|apply pw_below_drewN|apply below_drew1)|exact HB.out)) hb);clear HB;have HB := n0_;clear n0_;(try clear hb);(try clear hb2);(try clear hk);(try clear hi)))
 (try simp only [Act.put, List.setIfInBounds_toArray, List.set_cons_zero, List.set_cons_succ])
 go_cut [47] (fun v47 wc => ∃ (kq : Nat) (x47_3 : Bool), v47 = .bool x47_3 ∧ Aside0 (tombolalaw02_EuclidInverse.j0 kq a0 a1 x47_3 = some r) ∧ Aside0 (kq ≤ k) ∧ Aside0 (Below w.heap.size w wc))
 case first =>
  have H := HC4.out
  clear HC4
  by_cases c6 : a1 ≥ 2
  ·rw [if_pos c6] at H
   have c6b0 : decide (2 ≤ a1) = true := decide_eq_true c6
   clear c6
   (first|rw [c6b0]|rw [c6b1]|(simp only [i64_w, i32_w];rw [c6b0])|skip)
   replace H := Option.bind_eq_some_iff.mp H
   obtain ⟨t103, A70, H⟩ := H
   replace H : (if (t102 != (t103 == 1)) = true then (tombolalaw02_EuclidInverse.j0 k a0 a1 true) else (if t102 = true then (if t101 ≥ a1 then (tombolalaw02_EuclidInverse.j0 k a0 a1 true) else ((tombolaref02_MulMod.f k a0 t101 a1).bind fun t104 => (tombolalaw02_EuclidInverse.j0 k a0 a1 (t104 != 1)))) else (if t101 = 0 then (tombolalaw02_EuclidInverse.j0 k a0 a1 false) else (tombolalaw02_EuclidInverse.j0 k a0 a1 true)))) = some r := H
   have A7 := Aside0.mk A70
   clear A70
   by_cases c8 : (t102 != (t103 == 1)) = true
   ·rw [if_pos c8] at H
    have c8b0 : (t102 != (t103 == 1)) = true := c8
    (try (have c8b1 : decide (t102 = (t103 == 1)) = false := by simpa using c8))
    (try (have c8b2 : (t102 == (t103 == 1)) = false := by simpa using c8))
    (try (have c8b3 : ¬ (t102 = (t103 == 1)) := by simpa using c8))
    clear c8
    have hr_ := ht_.out
    subst hr_
    exact absurd H (by cases k <;> simp [tombolalaw02_EuclidInverse.j0])
   ·rw [if_neg c8] at H
    have c8b0 : (t102 != (t103 == 1)) = false := by simpa using c8
    (try (have c8b1 : decide (t102 = (t103 == 1)) = true := by simpa using c8))
    (try (have c8b2 : (t102 == (t103 == 1)) = true := by simpa using c8))
    clear c8
    by_cases c9 : t102 = true
    ·subst c9
     have H1 : (if t101 ≥ a1 then (tombolalaw02_EuclidInverse.j0 k a0 a1 true) else ((tombolaref02_MulMod.f k a0 t101 a1).bind fun t104 => (tombolalaw02_EuclidInverse.j0 k a0 a1 (t104 != 1)))) = some r := by rw [if_pos rfl] at H;exact H
     clear H
     have H := H1
     clear H1
     by_cases c10 : t101 ≥ a1
     ·rw [if_pos c10] at H
      have c10b0 : decide (a1 ≤ t101) = true := decide_eq_true c10
      clear c10
      have hr_ := ht_.out
      subst hr_
      exact absurd H (by cases k <;> simp [tombolalaw02_EuclidInverse.j0])
     ·rw [if_neg c10] at H
      have c10b0 : decide (a1 ≤ t101) = false := decide_eq_false c10
      clear c10
      replace H := Option.bind_eq_some_iff.mp H
      obtain ⟨t104, A110, H⟩ := H
      replace H : (tombolalaw02_EuclidInverse.j0 k a0 a1 (t104 != 1)) = some r := H
      have A11 := Aside0.mk A110
      clear A110
      have H' := Aside0.mk H
      clear H
      go_wp2_with (first|(go_at_call 7;(with_reducible refine (tombolaref02_Gcd.calls k a0 a1 t103 _ A7.out).mono ?_);rintro e w' ⟨rfl, ⟨nd, rfl⟩⟩)|(go_at_call 8;(with_reducible refine (tombolaref02_MulMod.calls k a0 t101 a1 t104 _ A11.out).mono ?_);rintro e w12 ⟨rfl, hb⟩;have n0_ := Aside0.mk (below_step (by repeat (first|(with_reducible first|exact HB.out|apply below_alloc|apply pw_below_drewN|apply below_drew1)|exact HB.out)) hb);clear HB;have HB := n0_;clear n0_;(try clear hb);(try clear hb2);(try clear hk);(try clear hi)))
      go_meet
      case rel => exact ⟨_, ((t104 != 1)), (by first|rfl|(simp;done)|(simp [*];done)), H', ⟨by first|omega|exact Nat.le_refl _⟩, ⟨by repeat (first|(with_reducible first|exact HB.out|apply below_alloc|apply pw_below_drewN|apply below_drew1)|exact HB.out)⟩⟩
    ·replace c9 := Bool.eq_false_iff.mpr c9
     subst c9
     have H1 : (if t101 = 0 then (tombolalaw02_EuclidInverse.j0 k a0 a1 false) else (tombolalaw02_EuclidInverse.j0 k a0 a1 true)) = some r := by rw [if_neg (show ¬ (false = true) by decide)] at H;exact H
     clear H
     have H := H1
     clear H1
     by_cases c13 : t101 = 0
     ·rw [if_pos c13] at H
      have c13b0 : (t101 == 0) = true := beq_iff_eq.mpr c13
      have c13b1 : (t101 != 0) = false := bne_eq_false_iff_eq.mpr c13
      clear c13
      have H' := Aside0.mk H
      clear H
      go_wp2_with (first|(go_at_call 7;(with_reducible refine (tombolaref02_Gcd.calls k a0 a1 t103 _ A7.out).mono ?_);rintro e w' ⟨rfl, ⟨nd, rfl⟩⟩))
      go_meet
      case rel => exact ⟨_, (false), (by first|rfl|(simp;done)|(simp [*];done)), H', ⟨by first|omega|exact Nat.le_refl _⟩, ⟨by repeat (first|(with_reducible first|exact HB.out|apply below_alloc|apply pw_below_drewN|apply below_drew1)|exact HB.out)⟩⟩
     ·rw [if_neg c13] at H
      have c13b0 : (t101 == 0) = false := beq_eq_false_iff_ne.mpr c13
      have c13b1 : (t101 != 0) = true := bne_iff_ne.mpr c13
      have hr_ := ht_.out
      subst hr_
      exact absurd H (by cases k <;> simp [tombolalaw02_EuclidInverse.j0])
  ·rw [if_neg c6] at H
   have c6b0 : decide (2 ≤ a1) = false := decide_eq_false c6
   clear c6
   (first|rw [c6b0]|rw [c6b1]|(simp only [i64_w, i32_w];rw [c6b0])|skip)
   by_cases c14 : (t102 != false) = true
   ·rw [if_pos c14] at H
    have c14b0 : (t102 != false) = true := c14
    (try (have c14b1 : decide (t102 = false) = false := by simpa using c14))
    (try (have c14b2 : (t102 == false) = false := by simpa using c14))
    (try (have c14b3 : ¬ (t102 = false) := by simpa using c14))
    clear c14
    have hr_ := ht_.out
    subst hr_
    exact absurd H (by cases k <;> simp [tombolalaw02_EuclidInverse.j0])
   ·rw [if_neg c14] at H
    have c14b0 : (t102 != false) = false := by simpa using c14
    (try (have c14b1 : decide (t102 = false) = true := by simpa using c14))
    (try (have c14b2 : (t102 == false) = true := by simpa using c14))
    clear c14
    by_cases c15 : t102 = true
    ·subst c15
     have H1 : (if t101 ≥ a1 then (tombolalaw02_EuclidInverse.j0 k a0 a1 true) else ((tombolaref02_MulMod.f k a0 t101 a1).bind fun t105 => (tombolalaw02_EuclidInverse.j0 k a0 a1 (t105 != 1)))) = some r := by rw [if_pos rfl] at H;exact H
     clear H
     have H := H1
     clear H1
     by_cases c16 : t101 ≥ a1
     ·rw [if_pos c16] at H
      have c16b0 : decide (a1 ≤ t101) = true := decide_eq_true c16
      clear c16
      have hr_ := ht_.out
      subst hr_
      exact absurd H (by cases k <;> simp [tombolalaw02_EuclidInverse.j0])
     ·rw [if_neg c16] at H
      have c16b0 : decide (a1 ≤ t101) = false := decide_eq_false c16
      clear c16
      replace H := Option.bind_eq_some_iff.mp H
      obtain ⟨t105, A170, H⟩ := H
      replace H : (tombolalaw02_EuclidInverse.j0 k a0 a1 (t105 != 1)) = some r := H
      have A17 := Aside0.mk A170
      clear A170
      have H' := Aside0.mk H
      clear H
      go_wp2_with (first|(go_at_call 8;(with_reducible refine (tombolaref02_MulMod.calls k a0 t101 a1 t105 _ A17.out).mono ?_);rintro e w18 ⟨rfl, hb⟩;have n0_ := Aside0.mk (below_step (by repeat (first|(with_reducible first|exact HB.out|apply below_alloc|apply pw_below_drewN|apply below_drew1)|exact HB.out)) hb);clear HB;have HB := n0_;clear n0_;(try clear hb);(try clear hb2);(try clear hk);(try clear hi)))
      go_meet
      case rel => exact ⟨_, ((t105 != 1)), (by first|rfl|(simp;done)|(simp [*];done)), H', ⟨by first|omega|exact Nat.le_refl _⟩, ⟨by repeat (first|(with_reducible first|exact HB.out|apply below_alloc|apply pw_below_drewN|apply below_drew1)|exact HB.out)⟩⟩
    ·replace c15 := Bool.eq_false_iff.mpr c15
     subst c15
     have H1 : (if t101 = 0 then (tombolalaw02_EuclidInverse.j0 k a0 a1 false) else (tombolalaw02_EuclidInverse.j0 k a0 a1 true)) = some r := by rw [if_neg (show ¬ (false = true) by decide)] at H;exact H
     clear H
     have H := H1
     clear H1
     by_cases c19 : t101 = 0
     ·rw [if_pos c19] at H
      have c19b0 : (t101 == 0) = true := beq_iff_eq.mpr c19
      have c19b1 : (t101 != 0) = false := bne_eq_false_iff_eq.mpr c19
      clear c19
      have H' := Aside0.mk H
      clear H
      go_wp2
      go_meet
      case rel => exact ⟨_, (false), (by first|rfl|(simp;done)|(simp [*];done)), H', ⟨by first|omega|exact Nat.le_refl _⟩, ⟨by repeat (first|(with_reducible first|exact HB.out|apply below_alloc|apply pw_below_drewN|apply below_drew1)|exact HB.out)⟩⟩
     ·rw [if_neg c19] at H
      have c19b0 : (t101 == 0) = false := beq_eq_false_iff_ne.mpr c19
      have c19b1 : (t101 != 0) = true := bne_iff_ne.mpr c19
      have hr_ := ht_.out
      subst hr_
      exact absurd H (by cases k <;> simp [tombolalaw02_EuclidInverse.j0])
 case rest => as_aux_lemma =>
  clear HC4
  try clear c1
  try clear p2
  try clear c3
  try clear c6
  try clear c6b0
  try clear c6b1
  try clear c8
  try clear c8b0
  try clear c8b1
  try clear c8b2
  try clear c9
  try clear c10
  try clear c10b0
  try clear c13
  try clear c13b0
  try clear c13b1
  try clear c14
  try clear c14b0
  try clear c14b1
  try clear c14b2
  try clear c15
  try clear c16
  try clear c16b0
  try clear c19
  try clear c19b0
  try clear c19b1
  obtain ⟨kq, x47_3, rfl, HA, HJ3, HB⟩ := hcut
  cases kq with
  | zero => exact absurd HA.out (by simp [tombolalaw02_EuclidInverse.j0])
  | succ kj3 =>
   have H := HA.out
   clear HA
   simp only [tombolalaw02_EuclidInverse.j0] at H
   by_cases c20 : x47_3 = true
   ·subst c20
    have H1 : (some false) = some r := by rw [if_pos rfl] at H;exact H
    clear H
    have H := H1
    clear H1
    exact absurd ((Option.some.inj H).trans ht_.out) (by simp)
   ·replace c20 := Bool.eq_false_iff.mpr c20
    subst c20
    have H1 : ((euclid_Lcm.f kj3 (([a0, a1] : List Int))).bind fun bt109 => (if bt109.2 = true then (if a0 = 0 then (tombolalaw02_EuclidInverse.j1 kj3 a0 a1 bt109.1 true) else (tombolalaw02_EuclidInverse.j1 kj3 a0 a1 bt109.1 (a1 == 0))) else (tombolalaw02_EuclidInverse.j1 kj3 a0 a1 bt109.1 true))) = some r := by rw [if_neg (show ¬ (false = true) by decide)] at H;exact H
    clear H
    have H := H1
    clear H1
    obtain ⟨y106, hy106⟩ : ∃ y_ : List Int, y_ = (([a0, a1] : List Int)) := ⟨_, rfl⟩
    replace H : ((euclid_Lcm.f kj3 y106).bind fun bt109 => (if bt109.2 = true then (if a0 = 0 then (tombolalaw02_EuclidInverse.j1 kj3 a0 a1 bt109.1 true) else (tombolalaw02_EuclidInverse.j1 kj3 a0 a1 bt109.1 (a1 == 0))) else (tombolalaw02_EuclidInverse.j1 kj3 a0 a1 bt109.1 true))) = some r := by first|(rw [hy106];with_reducible exact H)|(have H2_ := (Option.bind_some _ _).symm.trans H;rw [hy106];with_reducible exact H2_)|(have H2_ := (Option.bind_some _ _).symm.trans H;with_reducible exact H2_)|with_reducible exact H|(rw [hy106];exact H)|exact H
    have Ny106 := Aside0.mk hy106
    clear hy106
    replace H := Option.bind_eq_some_iff.mp H
    obtain ⟨⟨t109, t110⟩, A210, H⟩ := H
    replace H : (if t110 = true then (if a0 = 0 then (tombolalaw02_EuclidInverse.j1 kj3 a0 a1 t109 true) else (tombolalaw02_EuclidInverse.j1 kj3 a0 a1 t109 (a1 == 0))) else (tombolalaw02_EuclidInverse.j1 kj3 a0 a1 t109 true)) = some r := H
    have A21 := Aside0.mk A210
    clear A210
    have HC22 := Aside0.mk H
    clear H
    go_upto_region 5 with (first|((with_reducible refine gate_dst (N := 51) rfl ?_);refine Kd.R_lit (Kd.int .u64) _ 22 ?hg (N := 51) ?hd (xs := ([a0, a1] : List Int)) (inner := [.int .u64 a0, .int .u64 a1]) (ok := fun _ => True) (okp := fun _ => True) ?hr ?hp (fun _ hk => hk) trivial (Below.refl _ _) (Nat.le_refl _) (by simp) ?_;(case hd => rfl);(case hg => rfl);(case hr => first|(go_simp;done)|(go_simp;rfl));(case hp => exact (Reps.one (show Kd.M (Kd.int .u64) _ _ _ a0 [.int .u64 a0] from rfl) (Reps.one (show Kd.M (Kd.int .u64) _ _ _ a1 [.int .u64 a1] from rfl) (Reps.none _ _))));intro v107 w23 ho24 hb hg_ hnew_;clear hg_ hnew_;(first|rw [← Ny106.out] at ho24|(simp only [Int.reduceToNat] at ho24;rw [← Ny106.out] at ho24));have n0_ := Aside0.mk (Kd.R_lower ho24 (below_size (by repeat (first|(with_reducible first|exact HB.out|apply below_alloc|apply pw_below_drewN|apply below_drew1)|exact HB.out))));have n1_ := Aside0.mk (below_step (by repeat (first|(with_reducible first|exact HB.out|apply below_alloc|apply pw_below_drewN|apply below_drew1)|exact HB.out)) hb);clear HB;have HO108 := n0_;have HB := n1_;clear n0_ n1_;clear hb ho24;obtain ⟨Ao25, co25, eo25⟩ := Kd.R_slice HO108.out;subst eo25)|((with_reducible refine gate_callee (f := 9) rfl ?_);refine goesL_ (some 52) rfl rfl Tryd.func9 (by kernel_rfl) rfl #[.slice Ao25 y106.length co25] rfl (by (try simp only [List.map_toArray, List.map_cons, List.map_nil]);first|done|rfl|(simp only [List.length_drop, List.length_take];rfl)) ?_;(with_reducible refine (euclid_Lcm.calls kj3 _ _ y106 t109 t110 _ ?side1 ?side2 A21.out (by first|exact HT|(refine Tab.later HT ?_;repeat (first|(with_reducible exact HB.out)|(with_reducible exact Below.refl _ _)|apply below_alloc|apply pw_below_drewN|apply below_drew1)))).mono ?_);(case side1 => repeat (first|exact (Kd.R_reads' HO108.out).2.2|(with_reducible refine Kd.C_alloc ?_ _)|(with_reducible refine Kd.C_drewN ?_ _)|(with_reducible refine Kd.C_drew ?_)));(case side2 => exact (Kd.R_reads' HO108.out).2.1);rintro e w26 ⟨rfl, hb⟩;refine ⟨_, rfl, ?_⟩;have n0_ := Aside0.mk (Kd.R_below (by (with_reducible repeat (first|apply Kd.R_alloc|apply Kd.R_drewN|apply Kd.R_drew));exact HO108.out) hb);have n1_ := Aside0.mk (below_step (by repeat (first|(with_reducible first|exact HB.out|apply below_alloc|apply pw_below_drewN|apply below_drew1)|exact HB.out)) hb);clear HO108;clear HB;have HO108 := n0_;have HB := n1_;clear n0_ n1_;(try clear hb);(try clear hb2);(try clear hk);(try clear hi)))
    (try simp only [Act.put, List.setIfInBounds_toArray, List.set_cons_zero, List.set_cons_succ])
    go_cut [64] (fun v64 wc => ∃ (kq : Nat) (x64_21 : Bool), v64 = .bool x64_21 ∧ Aside0 (tombolalaw02_EuclidInverse.j1 kq a0 a1 t109 x64_21 = some r) ∧ Aside0 (kq ≤ kj3) ∧ Aside0 (Below w.heap.size w wc))
    case first =>
     have H := HC22.out
     clear HC22
     by_cases c27 : t110 = true
     ·subst c27
      have H1 : (if a0 = 0 then (tombolalaw02_EuclidInverse.j1 kj3 a0 a1 t109 true) else (tombolalaw02_EuclidInverse.j1 kj3 a0 a1 t109 (a1 == 0))) = some r := by rw [if_pos rfl] at H;exact H
      clear H
      have H := H1
      clear H1
      by_cases c28 : a0 = 0
      ·rw [if_pos c28] at H
       have c28b0 : (a0 == 0) = true := beq_iff_eq.mpr c28
       have c28b1 : (a0 != 0) = false := bne_eq_false_iff_eq.mpr c28
       clear c28
       (first|rw [c28b0]|rw [c28b1]|(simp only [i64_w, i32_w];rw [c28b0])|skip)
       have H' := Aside0.mk H
       clear H
       go_wp2
       go_meet
       case rel => exact ⟨_, (true), (by first|rfl|(simp;done)|(simp [*];done)), H', ⟨by have := HJ3.out;first|omega|exact Nat.le_refl _⟩, ⟨by repeat (first|(with_reducible first|exact HB.out|apply below_alloc|apply pw_below_drewN|apply below_drew1)|exact HB.out)⟩⟩
      ·rw [if_neg c28] at H
       have c28b0 : (a0 == 0) = false := beq_eq_false_iff_ne.mpr c28
       have c28b1 : (a0 != 0) = true := bne_iff_ne.mpr c28
       (first|rw [c28b0]|rw [c28b1]|(simp only [i64_w, i32_w];rw [c28b0])|skip)
       have H' := Aside0.mk H
       clear H
       go_wp2
       go_meet
       case rel => exact ⟨_, ((a1 == 0)), (by first|rfl|(simp;done)|(simp [*];done)), H', ⟨by have := HJ3.out;first|omega|exact Nat.le_refl _⟩, ⟨by repeat (first|(with_reducible first|exact HB.out|apply below_alloc|apply pw_below_drewN|apply below_drew1)|exact HB.out)⟩⟩
     ·replace c27 := Bool.eq_false_iff.mpr c27
      subst c27
      have H1 : (tombolalaw02_EuclidInverse.j1 kj3 a0 a1 t109 true) = some r := by rw [if_neg (show ¬ (false = true) by decide)] at H;exact H
      clear H
      have H := H1
      clear H1
      have H' := Aside0.mk H
      clear H
      go_wp2
      go_meet
      case rel => exact ⟨_, (true), (by first|rfl|(simp;done)|(simp [*];done)), H', ⟨by have := HJ3.out;first|omega|exact Nat.le_refl _⟩, ⟨by repeat (first|(with_reducible first|exact HB.out|apply below_alloc|apply pw_below_drewN|apply below_drew1)|exact HB.out)⟩⟩
    case rest => as_aux_lemma =>
     clear HC22
     try clear c1
     try clear c2
     try clear p2
     try clear c3
     try clear c6
     try clear c6b0
     try clear c6b1
     try clear c8
     try clear c8b0
     try clear c8b1
     try clear c8b2
     try clear c9
     try clear c10
     try clear c10b0
     try clear c13
     try clear c13b0
     try clear c13b1
     try clear c14
     try clear c14b0
     try clear c14b1
     try clear c14b2
     try clear c15
     try clear c16
     try clear c16b0
     try clear c19
     try clear c19b0
     try clear c19b1
     try clear c20
     try clear c27
     try clear c28
     try clear c28b0
     try clear c28b1
     try clear p2
     obtain ⟨kq, x64_21, rfl, HA, HJ21, HB⟩ := hcut
     cases kq with
     | zero => exact absurd HA.out (by simp [tombolalaw02_EuclidInverse.j1])
     | succ kj21 =>
      have H := HA.out
      clear HA
      simp only [tombolalaw02_EuclidInverse.j1] at H
      by_cases c29 : x64_21 = true
      ·subst c29
       have H1 : ((tombolalaw02_alive.f kj21).bind fun t111 => (some t111)) = some r := by rw [if_pos rfl] at H;exact H
       clear H
       have H := H1
       clear H1
       replace H := Option.bind_eq_some_iff.mp H
       obtain ⟨t111, A300, H⟩ := H
       replace H : (some t111) = some r := H
       have A30 := Aside0.mk A300
       clear A300
       obtain rfl := Option.some.inj H
       go_wp2_with (first|((with_reducible refine gate_callee (f := 10) rfl ?_);refine goesL_ (some 65) rfl rfl Tryd.func10 (by kernel_rfl) rfl #[] rfl (by (try simp only [List.map_toArray, List.map_cons, List.map_nil]);first|done|rfl|(simp only [List.length_drop, List.length_take];rfl)) ?_;(with_reducible refine (tombolalaw02_alive.calls kj21  t111 _ A30.out (by first|exact HT|(refine Tab.later HT ?_;repeat (first|(with_reducible exact HB.out)|(with_reducible exact Below.refl _ _)|apply below_alloc|apply pw_below_drewN|apply below_drew1)))).mono ?_);rintro e w31 ⟨rfl, hb⟩;refine ⟨_, rfl, ?_⟩;have n0_ := Aside0.mk (below_step (by repeat (first|(with_reducible first|exact HB.out|apply below_alloc|apply pw_below_drewN|apply below_drew1)|exact HB.out)) hb);clear HB;have HB := n0_;clear n0_;(try clear hb);(try clear hb2);(try clear hk);(try clear hi)))
       go_ret
       exact ⟨by first|rfl|(simp [errW_none, errW_some] <;> rfl)|(simp [*, errW_none, errW_some] <;> rfl), by repeat (first|(with_reducible first|exact HB.out|apply below_alloc|apply pw_below_drewN|apply below_drew1)|exact HB.out)⟩
      ·replace c29 := Bool.eq_false_iff.mpr c29
       subst c29
       have H1 : ((tombolaref01_Of.f kj21 t109).bind fun t112 => ((euclid_Gcd.f kj21 (([a0, a1] : List Int))).bind fun t118 => ((tombolaref01_Of.f kj21 t118).bind fun t119 => ((tombolaref01_Mul.f kj21 t112 t119).bind fun t122 => ((tombolaref01_Of.f kj21 a0).bind fun t125 => ((tombolaref01_Of.f kj21 a1).bind fun t128 => ((tombolaref01_Mul.f kj21 t125 t128).bind fun t131 => ((tombolaref01_Cmp.f kj21 t122 t131).bind fun t134 => (if t134 = 0 then ((tombolalaw02_alive.f kj21).bind fun t135 => (some t135)) else (some false)))))))))) = some r := by rw [if_neg (show ¬ (false = true) by decide)] at H;exact H
       clear H
       have H := H1
       clear H1
       replace H := Option.bind_eq_some_iff.mp H
       obtain ⟨t112, A320, H⟩ := H
       replace H : ((euclid_Gcd.f kj21 (([a0, a1] : List Int))).bind fun t118 => ((tombolaref01_Of.f kj21 t118).bind fun t119 => ((tombolaref01_Mul.f kj21 t112 t119).bind fun t122 => ((tombolaref01_Of.f kj21 a0).bind fun t125 => ((tombolaref01_Of.f kj21 a1).bind fun t128 => ((tombolaref01_Mul.f kj21 t125 t128).bind fun t131 => ((tombolaref01_Cmp.f kj21 t122 t131).bind fun t134 => (if t134 = 0 then ((tombolalaw02_alive.f kj21).bind fun t135 => (some t135)) else (some false))))))))) = some r := H
       have A32 := Aside0.mk A320
       clear A320
       obtain ⟨y115, hy115⟩ : ∃ y_ : List Int, y_ = (([a0, a1] : List Int)) := ⟨_, rfl⟩
       replace H : ((euclid_Gcd.f kj21 y115).bind fun t118 => ((tombolaref01_Of.f kj21 t118).bind fun t119 => ((tombolaref01_Mul.f kj21 t112 t119).bind fun t122 => ((tombolaref01_Of.f kj21 a0).bind fun t125 => ((tombolaref01_Of.f kj21 a1).bind fun t128 => ((tombolaref01_Mul.f kj21 t125 t128).bind fun t131 => ((tombolaref01_Cmp.f kj21 t122 t131).bind fun t134 => (if t134 = 0 then ((tombolalaw02_alive.f kj21).bind fun t135 => (some t135)) else (some false))))))))) = some r := by first|(rw [hy115];with_reducible exact H)|(have H2_ := (Option.bind_some _ _).symm.trans H;rw [hy115];with_reducible exact H2_)|(have H2_ := (Option.bind_some _ _).symm.trans H;with_reducible exact H2_)|with_reducible exact H|(rw [hy115];exact H)|exact H
       have Ny115 := Aside0.mk hy115
       clear hy115
       replace H := Option.bind_eq_some_iff.mp H
       obtain ⟨t118, A330, H⟩ := H
       replace H : ((tombolaref01_Of.f kj21 t118).bind fun t119 => ((tombolaref01_Mul.f kj21 t112 t119).bind fun t122 => ((tombolaref01_Of.f kj21 a0).bind fun t125 => ((tombolaref01_Of.f kj21 a1).bind fun t128 => ((tombolaref01_Mul.f kj21 t125 t128).bind fun t131 => ((tombolaref01_Cmp.f kj21 t122 t131).bind fun t134 => (if t134 = 0 then ((tombolalaw02_alive.f kj21).bind fun t135 => (some t135)) else (some false)))))))) = some r := H
       have A33 := Aside0.mk A330
       clear A330
       replace H := Option.bind_eq_some_iff.mp H
       obtain ⟨t119, A340, H⟩ := H
       replace H : ((tombolaref01_Mul.f kj21 t112 t119).bind fun t122 => ((tombolaref01_Of.f kj21 a0).bind fun t125 => ((tombolaref01_Of.f kj21 a1).bind fun t128 => ((tombolaref01_Mul.f kj21 t125 t128).bind fun t131 => ((tombolaref01_Cmp.f kj21 t122 t131).bind fun t134 => (if t134 = 0 then ((tombolalaw02_alive.f kj21).bind fun t135 => (some t135)) else (some false))))))) = some r := H
       have A34 := Aside0.mk A340
       clear A340
       replace H := Option.bind_eq_some_iff.mp H
       obtain ⟨t122, A350, H⟩ := H
       replace H : ((tombolaref01_Of.f kj21 a0).bind fun t125 => ((tombolaref01_Of.f kj21 a1).bind fun t128 => ((tombolaref01_Mul.f kj21 t125 t128).bind fun t131 => ((tombolaref01_Cmp.f kj21 t122 t131).bind fun t134 => (if t134 = 0 then ((tombolalaw02_alive.f kj21).bind fun t135 => (some t135)) else (some false)))))) = some r := H
       have A35 := Aside0.mk A350
       clear A350
       replace H := Option.bind_eq_some_iff.mp H
       obtain ⟨t125, A360, H⟩ := H
       replace H : ((tombolaref01_Of.f kj21 a1).bind fun t128 => ((tombolaref01_Mul.f kj21 t125 t128).bind fun t131 => ((tombolaref01_Cmp.f kj21 t122 t131).bind fun t134 => (if t134 = 0 then ((tombolalaw02_alive.f kj21).bind fun t135 => (some t135)) else (some false))))) = some r := H
       have A36 := Aside0.mk A360
       clear A360
       replace H := Option.bind_eq_some_iff.mp H
       obtain ⟨t128, A370, H⟩ := H
       replace H : ((tombolaref01_Mul.f kj21 t125 t128).bind fun t131 => ((tombolaref01_Cmp.f kj21 t122 t131).bind fun t134 => (if t134 = 0 then ((tombolalaw02_alive.f kj21).bind fun t135 => (some t135)) else (some false)))) = some r := H
       have A37 := Aside0.mk A370
       clear A370
       replace H := Option.bind_eq_some_iff.mp H
       obtain ⟨t131, A380, H⟩ := H
       replace H : ((tombolaref01_Cmp.f kj21 t122 t131).bind fun t134 => (if t134 = 0 then ((tombolalaw02_alive.f kj21).bind fun t135 => (some t135)) else (some false))) = some r := H
       have A38 := Aside0.mk A380
       clear A380
       replace H := Option.bind_eq_some_iff.mp H
       obtain ⟨t134, A390, H⟩ := H
       replace H : (if t134 = 0 then ((tombolalaw02_alive.f kj21).bind fun t135 => (some t135)) else (some false)) = some r := H
       have A39 := Aside0.mk A390
       clear A390
       by_cases c40 : t134 = 0
       ·rw [if_pos c40] at H
        have c40b0 : (t134 == 0) = true := beq_iff_eq.mpr c40
        have c40b1 : (t134 != 0) = false := bne_eq_false_iff_eq.mpr c40
        clear c40
        replace H := Option.bind_eq_some_iff.mp H
        obtain ⟨t135, A410, H⟩ := H
        replace H : (some t135) = some r := H
        have A41 := Aside0.mk A410
        clear A410
        obtain rfl := Option.some.inj H
        go_wp2_with (first|((with_reducible refine gate_callee (f := 13) rfl ?_);refine goesL_ (some 67) rfl rfl Tryd.func13 (by kernel_rfl) rfl #[.int .u64 t109] rfl (by (try simp only [List.map_toArray, List.map_cons, List.map_nil]);first|done|rfl|(simp only [List.length_drop, List.length_take];rfl)) ?_;(with_reducible refine (tombolaref01_Of.calls kj21 t109 t112 _ A32.out).mono ?_);rintro e w42 ⟨v113, rfl, ho0, hb⟩;refine ⟨_, rfl, ?_⟩;have n0_ := Aside0.mk (Kd.R_lower ho0 (below_size (by repeat (first|(with_reducible first|exact HB.out|apply below_alloc|apply pw_below_drewN|apply below_drew1)|exact HB.out))));have n1_ := Aside0.mk (below_step (by repeat (first|(with_reducible first|exact HB.out|apply below_alloc|apply pw_below_drewN|apply below_drew1)|exact HB.out)) hb);clear HB;have HO114 := n0_;have HB := n1_;clear n0_ n1_;(try clear hb);(try clear hb2);(try clear hk);(try clear hi);(try clear ho0))|((with_reducible refine gate_dst (N := 70) rfl ?_);refine Kd.R_lit (Kd.int .u64) _ 22 ?hg (N := 70) ?hd (xs := ([a0, a1] : List Int)) (inner := [.int .u64 a0, .int .u64 a1]) (ok := fun _ => True) (okp := fun _ => True) ?hr ?hp (fun _ hk => hk) trivial (Below.refl _ _) (Nat.le_refl _) (by simp) ?_;(case hd => rfl);(case hg => rfl);(case hr => first|(go_simp;done)|(go_simp;rfl));(case hp => exact (Reps.one (show Kd.M (Kd.int .u64) _ _ _ a0 [.int .u64 a0] from rfl) (Reps.one (show Kd.M (Kd.int .u64) _ _ _ a1 [.int .u64 a1] from rfl) (Reps.none _ _))));intro v116 w43 ho44 hb hg_ hnew_;clear hg_ hnew_;(first|rw [← Ny115.out] at ho44|(simp only [Int.reduceToNat] at ho44;rw [← Ny115.out] at ho44));have n0_ := Aside0.mk (Kd.R_below (by (with_reducible repeat (first|apply Kd.R_alloc|apply Kd.R_drewN|apply Kd.R_drew));exact HO114.out) hb);have n1_ := Aside0.mk (Kd.R_lower ho44 (below_size (by repeat (first|(with_reducible first|exact HB.out|apply below_alloc|apply pw_below_drewN|apply below_drew1)|exact HB.out))));have n2_ := Aside0.mk (below_step (by repeat (first|(with_reducible first|exact HB.out|apply below_alloc|apply pw_below_drewN|apply below_drew1)|exact HB.out)) hb);clear HO114;clear HB;have HO114 := n0_;have HO117 := n1_;have HB := n2_;clear n0_ n1_ n2_;clear hb ho44;obtain ⟨Ao45, co45, eo45⟩ := Kd.R_slice HO117.out;subst eo45)|((with_reducible refine gate_callee (f := 14) rfl ?_);refine goesL_ (some 71) rfl rfl Tryd.func14 (by kernel_rfl) rfl #[.slice Ao45 y115.length co45] rfl (by (try simp only [List.map_toArray, List.map_cons, List.map_nil]);first|done|rfl|(simp only [List.length_drop, List.length_take];rfl)) ?_;(with_reducible refine (euclid_Gcd.calls kj21 _ _ y115 t118 _ ?side1 ?side2 A33.out (by first|exact HT|(refine Tab.later HT ?_;repeat (first|(with_reducible exact HB.out)|(with_reducible exact Below.refl _ _)|apply below_alloc|apply pw_below_drewN|apply below_drew1)))).mono ?_);(case side1 => repeat (first|exact (Kd.R_reads' HO117.out).2.2|(with_reducible refine Kd.C_alloc ?_ _)|(with_reducible refine Kd.C_drewN ?_ _)|(with_reducible refine Kd.C_drew ?_)));(case side2 => exact (Kd.R_reads' HO117.out).2.1);rintro e w' ⟨rfl, ⟨nd, rfl⟩⟩;refine ⟨_, rfl, ?_⟩)|((with_reducible refine gate_callee (f := 13) rfl ?_);refine goesL_ (some 72) rfl rfl Tryd.func13 (by kernel_rfl) rfl #[.int .u64 t118] rfl (by (try simp only [List.map_toArray, List.map_cons, List.map_nil]);first|done|rfl|(simp only [List.length_drop, List.length_take];rfl)) ?_;(with_reducible refine (tombolaref01_Of.calls kj21 t118 t119 _ A34.out).mono ?_);rintro e w46 ⟨v120, rfl, ho0, hb⟩;refine ⟨_, rfl, ?_⟩;have n0_ := Aside0.mk (Kd.R_elder' (by (with_reducible repeat (first|apply Kd.R_alloc|apply Kd.R_drewN|apply Kd.R_drew));exact HO114.out) (Kd.R_base ho0) hb);have n1_ := Aside0.mk (Kd.R_below (by (with_reducible repeat (first|apply Kd.R_alloc|apply Kd.R_drewN|apply Kd.R_drew));exact HO117.out) hb);have n2_ := Aside0.mk (Kd.R_lower (Kd.R_new' ho0 (Kd.R_lt (by (with_reducible repeat (first|apply Kd.R_alloc|apply Kd.R_drewN|apply Kd.R_drew));exact HO114.out))) (below_size (by repeat (first|(with_reducible first|exact HB.out|apply below_alloc|apply pw_below_drewN|apply below_drew1)|exact HB.out))));have n3_ := Aside0.mk (below_step (by repeat (first|(with_reducible first|exact HB.out|apply below_alloc|apply pw_below_drewN|apply below_drew1)|exact HB.out)) hb);clear HO114;clear HO117;clear HB;have HO114 := n0_;have HO117 := n1_;have HO121 := n2_;have HB := n3_;clear n0_ n1_ n2_ n3_;(try clear hb);(try clear hb2);(try clear hk);(try clear hi);(try clear ho0);obtain ⟨Ao47, co47, eo47⟩ := Kd.R_slice HO114.out;subst eo47;obtain ⟨Ao48, co48, eo48⟩ := Kd.R_slice HO121.out;subst eo48)|((with_reducible refine gate_callee (f := 12) rfl ?_);refine goesL_ (some 73) rfl rfl Tryd.func12 (by kernel_rfl) rfl #[.agg #[.slice Ao47 t112.length co47], .agg #[.slice Ao48 t119.length co48]] rfl (by (try simp only [List.map_toArray, List.map_cons, List.map_nil]);first|done|rfl|(simp only [List.length_drop, List.length_take];rfl)) ?_;(with_reducible refine (tombolaref01_Mul.calls kj21 _ _ t112 _ _ t119 t122 _ ?side1 ?side2 ?side3 ?side4 A35.out).mono ?_);(case side1 => repeat (first|exact (Kd.R_reads' HO114.out).2.2|(with_reducible refine Kd.C_alloc ?_ _)|(with_reducible refine Kd.C_drewN ?_ _)|(with_reducible refine Kd.C_drew ?_)));(case side2 => exact (Kd.R_reads' HO114.out).2.1);(case side3 => repeat (first|exact (Kd.R_reads' HO121.out).2.2|(with_reducible refine Kd.C_alloc ?_ _)|(with_reducible refine Kd.C_drewN ?_ _)|(with_reducible refine Kd.C_drew ?_)));(case side4 => exact (Kd.R_reads' HO121.out).2.1);rintro e w49 ⟨v123, rfl, ho0, hb⟩;refine ⟨_, rfl, ?_⟩;have n0_ := Aside0.mk (Kd.R_elder' (by (with_reducible repeat (first|apply Kd.R_alloc|apply Kd.R_drewN|apply Kd.R_drew));exact HO114.out) (Kd.R_base ho0) hb);have n1_ := Aside0.mk (Kd.R_below (by (with_reducible repeat (first|apply Kd.R_alloc|apply Kd.R_drewN|apply Kd.R_drew));exact HO117.out) hb);have n2_ := Aside0.mk (Kd.R_elder' (by (with_reducible repeat (first|apply Kd.R_alloc|apply Kd.R_drewN|apply Kd.R_drew));exact HO121.out) (Kd.R_base ho0) hb);have n3_ := Aside0.mk (Kd.R_lower (Kd.R_new' (Kd.R_new' ho0 (Kd.R_lt (by (with_reducible repeat (first|apply Kd.R_alloc|apply Kd.R_drewN|apply Kd.R_drew));exact HO114.out))) (Kd.R_lt (by (with_reducible repeat (first|apply Kd.R_alloc|apply Kd.R_drewN|apply Kd.R_drew));exact HO121.out))) (below_size (by repeat (first|(with_reducible first|exact HB.out|apply below_alloc|apply pw_below_drewN|apply below_drew1)|exact HB.out))));have n4_ := Aside0.mk (below_step (by repeat (first|(with_reducible first|exact HB.out|apply below_alloc|apply pw_below_drewN|apply below_drew1)|exact HB.out)) hb);clear HO114;clear HO117;clear HO121;clear HB;have HO114 := n0_;have HO117 := n1_;have HO121 := n2_;have HO124 := n3_;have HB := n4_;clear n0_ n1_ n2_ n3_ n4_;(try clear hb);(try clear hb2);(try clear hk);(try clear hi);(try clear ho0))|((with_reducible refine gate_callee (f := 13) rfl ?_);refine goesL_ (some 75) rfl rfl Tryd.func13 (by kernel_rfl) rfl #[.int .u64 a0] rfl (by (try simp only [List.map_toArray, List.map_cons, List.map_nil]);first|done|rfl|(simp only [List.length_drop, List.length_take];rfl)) ?_;(with_reducible refine (tombolaref01_Of.calls kj21 a0 t125 _ A36.out).mono ?_);rintro e w50 ⟨v126, rfl, ho0, hb⟩;refine ⟨_, rfl, ?_⟩;have n0_ := Aside0.mk (Kd.R_elder' (by (with_reducible repeat (first|apply Kd.R_alloc|apply Kd.R_drewN|apply Kd.R_drew));exact HO114.out) (Kd.R_base ho0) hb);have n1_ := Aside0.mk (Kd.R_below (by (with_reducible repeat (first|apply Kd.R_alloc|apply Kd.R_drewN|apply Kd.R_drew));exact HO117.out) hb);have n2_ := Aside0.mk (Kd.R_elder' (by (with_reducible repeat (first|apply Kd.R_alloc|apply Kd.R_drewN|apply Kd.R_drew));exact HO121.out) (Kd.R_base ho0) hb);have n3_ := Aside0.mk (Kd.R_elder' (by (with_reducible repeat (first|apply Kd.R_alloc|apply Kd.R_drewN|apply Kd.R_drew));exact HO124.out) (Kd.R_base ho0) hb);have n4_ := Aside0.mk (Kd.R_lower (Kd.R_new' (Kd.R_new' (Kd.R_new' ho0 (Kd.R_lt (by (with_reducible repeat (first|apply Kd.R_alloc|apply Kd.R_drewN|apply Kd.R_drew));exact HO114.out))) (Kd.R_lt (by (with_reducible repeat (first|apply Kd.R_alloc|apply Kd.R_drewN|apply Kd.R_drew));exact HO121.out))) (Kd.R_lt (by (with_reducible repeat (first|apply Kd.R_alloc|apply Kd.R_drewN|apply Kd.R_drew));exact HO124.out))) (below_size (by repeat (first|(with_reducible first|exact HB.out|apply below_alloc|apply pw_below_drewN|apply below_drew1)|exact HB.out))));have n5_ := Aside0.mk (below_step (by repeat (first|(with_reducible first|exact HB.out|apply below_alloc|apply pw_below_drewN|apply below_drew1)|exact HB.out)) hb);clear HO114;clear HO117;clear HO121;clear HO124;clear HB;have HO114 := n0_;have HO117 := n1_;have HO121 := n2_;have HO124 := n3_;have HO127 := n4_;have HB := n5_;clear n0_ n1_ n2_ n3_ n4_ n5_;(try clear hb);(try clear hb2);(try clear hk);(try clear hi);(try clear ho0))|((with_reducible refine gate_callee (f := 13) rfl ?_);refine goesL_ (some 77) rfl rfl Tryd.func13 (by kernel_rfl) rfl #[.int .u64 a1] rfl (by (try simp only [List.map_toArray, List.map_cons, List.map_nil]);first|done|rfl|(simp only [List.length_drop, List.length_take];rfl)) ?_;(with_reducible refine (tombolaref01_Of.calls kj21 a1 t128 _ A37.out).mono ?_);rintro e w51 ⟨v129, rfl, ho0, hb⟩;refine ⟨_, rfl, ?_⟩;have n0_ := Aside0.mk (Kd.R_elder' (by (with_reducible repeat (first|apply Kd.R_alloc|apply Kd.R_drewN|apply Kd.R_drew));exact HO114.out) (Kd.R_base ho0) hb);have n1_ := Aside0.mk (Kd.R_below (by (with_reducible repeat (first|apply Kd.R_alloc|apply Kd.R_drewN|apply Kd.R_drew));exact HO117.out) hb);have n2_ := Aside0.mk (Kd.R_elder' (by (with_reducible repeat (first|apply Kd.R_alloc|apply Kd.R_drewN|apply Kd.R_drew));exact HO121.out) (Kd.R_base ho0) hb);have n3_ := Aside0.mk (Kd.R_elder' (by (with_reducible repeat (first|apply Kd.R_alloc|apply Kd.R_drewN|apply Kd.R_drew));exact HO124.out) (Kd.R_base ho0) hb);have n4_ := Aside0.mk (Kd.R_elder' (by (with_reducible repeat (first|apply Kd.R_alloc|apply Kd.R_drewN|apply Kd.R_drew));exact HO127.out) (Kd.R_base ho0) hb);have n5_ := Aside0.mk (Kd.R_lower (Kd.R_new' (Kd.R_new' (Kd.R_new' (Kd.R_new' ho0 (Kd.R_lt (by (with_reducible repeat (first|apply Kd.R_alloc|apply Kd.R_drewN|apply Kd.R_drew));exact HO114.out))) (Kd.R_lt (by (with_reducible repeat (first|apply Kd.R_alloc|apply Kd.R_drewN|apply Kd.R_drew));exact HO121.out))) (Kd.R_lt (by (with_reducible repeat (first|apply Kd.R_alloc|apply Kd.R_drewN|apply Kd.R_drew));exact HO124.out))) (Kd.R_lt (by (with_reducible repeat (first|apply Kd.R_alloc|apply Kd.R_drewN|apply Kd.R_drew));exact HO127.out))) (below_size (by repeat (first|(with_reducible first|exact HB.out|apply below_alloc|apply pw_below_drewN|apply below_drew1)|exact HB.out))));have n6_ := Aside0.mk (below_step (by repeat (first|(with_reducible first|exact HB.out|apply below_alloc|apply pw_below_drewN|apply below_drew1)|exact HB.out)) hb);clear HO114;clear HO117;clear HO121;clear HO124;clear HO127;clear HB;have HO114 := n0_;have HO117 := n1_;have HO121 := n2_;have HO124 := n3_;have HO127 := n4_;have HO130 := n5_;have HB := n6_;clear n0_ n1_ n2_ n3_ n4_ n5_ n6_;(try clear hb);(try clear hb2);(try clear hk);(try clear hi);(try clear ho0);obtain ⟨Ao52, co52, eo52⟩ := Kd.R_slice HO127.out;subst eo52;obtain ⟨Ao53, co53, eo53⟩ := Kd.R_slice HO130.out;subst eo53)|((with_reducible refine gate_callee (f := 12) rfl ?_);refine goesL_ (some 78) rfl rfl Tryd.func12 (by kernel_rfl) rfl #[.agg #[.slice Ao52 t125.length co52], .agg #[.slice Ao53 t128.length co53]] rfl (by (try simp only [List.map_toArray, List.map_cons, List.map_nil]);first|done|rfl|(simp only [List.length_drop, List.length_take];rfl)) ?_;(with_reducible refine (tombolaref01_Mul.calls kj21 _ _ t125 _ _ t128 t131 _ ?side1 ?side2 ?side3 ?side4 A38.out).mono ?_);(case side1 => repeat (first|exact (Kd.R_reads' HO127.out).2.2|(with_reducible refine Kd.C_alloc ?_ _)|(with_reducible refine Kd.C_drewN ?_ _)|(with_reducible refine Kd.C_drew ?_)));(case side2 => exact (Kd.R_reads' HO127.out).2.1);(case side3 => repeat (first|exact (Kd.R_reads' HO130.out).2.2|(with_reducible refine Kd.C_alloc ?_ _)|(with_reducible refine Kd.C_drewN ?_ _)|(with_reducible refine Kd.C_drew ?_)));(case side4 => exact (Kd.R_reads' HO130.out).2.1);rintro e w54 ⟨v132, rfl, ho0, hb⟩;refine ⟨_, rfl, ?_⟩;have n0_ := Aside0.mk (Kd.R_elder' (by (with_reducible repeat (first|apply Kd.R_alloc|apply Kd.R_drewN|apply Kd.R_drew));exact HO114.out) (Kd.R_base ho0) hb);have n1_ := Aside0.mk (Kd.R_below (by (with_reducible repeat (first|apply Kd.R_alloc|apply Kd.R_drewN|apply Kd.R_drew));exact HO117.out) hb);have n2_ := Aside0.mk (Kd.R_elder' (by (with_reducible repeat (first|apply Kd.R_alloc|apply Kd.R_drewN|apply Kd.R_drew));exact HO121.out) (Kd.R_base ho0) hb);have n3_ := Aside0.mk (Kd.R_elder' (by (with_reducible repeat (first|apply Kd.R_alloc|apply Kd.R_drewN|apply Kd.R_drew));exact HO124.out) (Kd.R_base ho0) hb);have n4_ := Aside0.mk (Kd.R_elder' (by (with_reducible repeat (first|apply Kd.R_alloc|apply Kd.R_drewN|apply Kd.R_drew));exact HO127.out) (Kd.R_base ho0) hb);have n5_ := Aside0.mk (Kd.R_elder' (by (with_reducible repeat (first|apply Kd.R_alloc|apply Kd.R_drewN|apply Kd.R_drew));exact HO130.out) (Kd.R_base ho0) hb);have n6_ := Aside0.mk (Kd.R_lower (Kd.R_new' (Kd.R_new' (Kd.R_new' (Kd.R_new' (Kd.R_new' ho0 (Kd.R_lt (by (with_reducible repeat (first|apply Kd.R_alloc|apply Kd.R_drewN|apply Kd.R_drew));exact HO114.out))) (Kd.R_lt (by (with_reducible repeat (first|apply Kd.R_alloc|apply Kd.R_drewN|apply Kd.R_drew));exact HO121.out))) (Kd.R_lt (by (with_reducible repeat (first|apply Kd.R_alloc|apply Kd.R_drewN|apply Kd.R_drew));exact HO124.out))) (Kd.R_lt (by (with_reducible repeat (first|apply Kd.R_alloc|apply Kd.R_drewN|apply Kd.R_drew));exact HO127.out))) (Kd.R_lt (by (with_reducible repeat (first|apply Kd.R_alloc|apply Kd.R_drewN|apply Kd.R_drew));exact HO130.out))) (below_size (by repeat (first|(with_reducible first|exact HB.out|apply below_alloc|apply pw_below_drewN|apply below_drew1)|exact HB.out))));have n7_ := Aside0.mk (below_step (by repeat (first|(with_reducible first|exact HB.out|apply below_alloc|apply pw_below_drewN|apply below_drew1)|exact HB.out)) hb);clear HO114;clear HO117;clear HO121;clear HO124;clear HO127;clear HO130;clear HB;have HO114 := n0_;have HO117 := n1_;have HO121 := n2_;have HO124 := n3_;have HO127 := n4_;have HO130 := n5_;have HO133 := n6_;have HB := n7_;clear n0_ n1_ n2_ n3_ n4_ n5_ n6_ n7_;(try clear hb);(try clear hb2);(try clear hk);(try clear hi);(try clear ho0);obtain ⟨Ao55, co55, eo55⟩ := Kd.R_slice HO124.out;subst eo55;obtain ⟨Ao56, co56, eo56⟩ := Kd.R_slice HO133.out;subst eo56)|((with_reducible refine gate_callee (f := 11) rfl ?_);refine goesL_ (some 79) rfl rfl Tryd.func11 (by kernel_rfl) rfl #[.agg #[.slice Ao55 t122.length co55], .agg #[.slice Ao56 t131.length co56]] rfl (by (try simp only [List.map_toArray, List.map_cons, List.map_nil]);first|done|rfl|(simp only [List.length_drop, List.length_take];rfl)) ?_;(with_reducible refine (tombolaref01_Cmp.calls kj21 _ _ t122 _ _ t131 t134 _ ?side1 ?side2 ?side3 ?side4 A39.out).mono ?_);(case side1 => repeat (first|exact (Kd.R_reads' HO124.out).2.2|(with_reducible refine Kd.C_alloc ?_ _)|(with_reducible refine Kd.C_drewN ?_ _)|(with_reducible refine Kd.C_drew ?_)));(case side2 => exact (Kd.R_reads' HO124.out).2.1);(case side3 => repeat (first|exact (Kd.R_reads' HO133.out).2.2|(with_reducible refine Kd.C_alloc ?_ _)|(with_reducible refine Kd.C_drewN ?_ _)|(with_reducible refine Kd.C_drew ?_)));(case side4 => exact (Kd.R_reads' HO133.out).2.1);rintro e w57 ⟨rfl, hb⟩;refine ⟨_, rfl, ?_⟩;have n0_ := Aside0.mk (Kd.R_below (by (with_reducible repeat (first|apply Kd.R_alloc|apply Kd.R_drewN|apply Kd.R_drew));exact HO114.out) hb);have n1_ := Aside0.mk (Kd.R_below (by (with_reducible repeat (first|apply Kd.R_alloc|apply Kd.R_drewN|apply Kd.R_drew));exact HO117.out) hb);have n2_ := Aside0.mk (Kd.R_below (by (with_reducible repeat (first|apply Kd.R_alloc|apply Kd.R_drewN|apply Kd.R_drew));exact HO121.out) hb);have n3_ := Aside0.mk (Kd.R_below (by (with_reducible repeat (first|apply Kd.R_alloc|apply Kd.R_drewN|apply Kd.R_drew));exact HO124.out) hb);have n4_ := Aside0.mk (Kd.R_below (by (with_reducible repeat (first|apply Kd.R_alloc|apply Kd.R_drewN|apply Kd.R_drew));exact HO127.out) hb);have n5_ := Aside0.mk (Kd.R_below (by (with_reducible repeat (first|apply Kd.R_alloc|apply Kd.R_drewN|apply Kd.R_drew));exact HO130.out) hb);have n6_ := Aside0.mk (Kd.R_below (by (with_reducible repeat (first|apply Kd.R_alloc|apply Kd.R_drewN|apply Kd.R_drew));exact HO133.out) hb);have n7_ := Aside0.mk (below_step (by repeat (first|(with_reducible first|exact HB.out|apply below_alloc|apply pw_below_drewN|apply below_drew1)|exact HB.out)) hb);clear HO114;clear HO117;clear HO121;clear HO124;clear HO127;clear HO130;clear HO133;clear HB;have HO114 := n0_;have HO117 := n1_;have HO121 := n2_;have HO124 := n3_;have HO127 := n4_;have HO130 := n5_;have HO133 := n6_;have HB := n7_;clear n0_ n1_ n2_ n3_ n4_ n5_ n6_ n7_;(try clear hb);(try clear hb2);(try clear hk);(try clear hi))|(go_at_call 10;(with_reducible refine (tombolalaw02_alive.calls kj21  t135 _ A41.out (by first|exact HT|(refine Tab.later HT ?_;repeat (first|(with_reducible exact HB.out)|(with_reducible exact Below.refl _ _)|apply below_alloc|apply pw_below_drewN|apply below_drew1)))).mono ?_);rintro e w58 ⟨rfl, hb⟩;have n0_ := Aside0.mk (Kd.R_below (by (with_reducible repeat (first|apply Kd.R_alloc|apply Kd.R_drewN|apply Kd.R_drew));exact HO114.out) hb);have n1_ := Aside0.mk (Kd.R_below (by (with_reducible repeat (first|apply Kd.R_alloc|apply Kd.R_drewN|apply Kd.R_drew));exact HO117.out) hb);have n2_ := Aside0.mk (Kd.R_below (by (with_reducible repeat (first|apply Kd.R_alloc|apply Kd.R_drewN|apply Kd.R_drew));exact HO121.out) hb);have n3_ := Aside0.mk (Kd.R_below (by (with_reducible repeat (first|apply Kd.R_alloc|apply Kd.R_drewN|apply Kd.R_drew));exact HO124.out) hb);have n4_ := Aside0.mk (Kd.R_below (by (with_reducible repeat (first|apply Kd.R_alloc|apply Kd.R_drewN|apply Kd.R_drew));exact HO127.out) hb);have n5_ := Aside0.mk (Kd.R_below (by (with_reducible repeat (first|apply Kd.R_alloc|apply Kd.R_drewN|apply Kd.R_drew));exact HO130.out) hb);have n6_ := Aside0.mk (Kd.R_below (by (with_reducible repeat (first|apply Kd.R_alloc|apply Kd.R_drewN|apply Kd.R_drew));exact HO133.out) hb);have n7_ := Aside0.mk (below_step (by repeat (first|(with_reducible first|exact HB.out|apply below_alloc|apply pw_below_drewN|apply below_drew1)|exact HB.out)) hb);clear HO114;clear HO117;clear HO121;clear HO124;clear HO127;clear HO130;clear HO133;clear HB;have HO114 := n0_;have HO117 := n1_;have HO121 := n2_;have HO124 := n3_;have HO127 := n4_;have HO130 := n5_;have HO133 := n6_;have HB := n7_;clear n0_ n1_ n2_ n3_ n4_ n5_ n6_ n7_;(try clear hb);(try clear hb2);(try clear hk);(try clear hi)))
        go_ret
        exact ⟨by first|rfl|(simp [errW_none, errW_some] <;> rfl)|(simp [*, errW_none, errW_some] <;> rfl), by repeat (first|(with_reducible first|exact HB.out|apply below_alloc|apply pw_below_drewN|apply below_drew1)|exact HB.out)⟩
       ·rw [if_neg c40] at H
        have c40b0 : (t134 == 0) = false := beq_eq_false_iff_ne.mpr c40
        have c40b1 : (t134 != 0) = true := bne_iff_ne.mpr c40
        exact absurd ((Option.some.inj H).trans ht_.out) (by simp)
end Go.Proofs.YteipfcflijdapaaDoor.F
