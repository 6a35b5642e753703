-- Cut for this claim by a program (wip/prune.py) out of the texts that its bench laid or wrote
import Derived.Test.YteipfcflijdapaaDoorCmp
import Derived.Test.YteipfcflijdapaaDoorEuclidI
import Derived.Test.YteipfcflijdapaaDoorFLaw02alive
import Derived.Test.YteipfcflijdapaaDoorDigs
import Derived.Test.YteipfcflijdapaaDoorFRef02A
import Derived.Test.YteipfcflijdapaaDoorFEuclidA
import Derived.SizedLaws
import Derived.ChangeSlices
section
namespace Go.Proofs.YteipfcflijdapaaDoor.N
open Go Go.RowKit Go.Proofs.YteipfcflijdapaaDoor.F Go.Proofs.YteipfcflijdapaaDoorW.PrintWords Go.Proofs.YteipfcflijdapaaDoorW.PrintLast Go.Proofs.YteipfcflijdapaaDoorW.PrintMore Go.Proofs.YteipfcflijdapaaDoor.Digs
set_option linter.unusedSimpArgs false
set_option linter.unusedVariables false
theorem word_of {x : Int} (h : (Lit.int .u64 x).wf = true) : ∃ n : Nat, x = (n : Int) ∧ n < 18446744073709551616 := by
  have h2 : 0 ≤ x ∧ x ≤ 18446744073709551615 := by simpa [Lit.wf, IntKind.min, IntKind.max, IntKind.signed, IntKind.bits] using h
  exact ⟨x.toNat, by omega, by omega⟩
theorem words_pair (a b : Nat) (ha : a < 18446744073709551616) (hb : b < 18446744073709551616) : Words [a, b] := by
  intro n hn
  simp only [List.mem_cons, List.not_mem_nil, or_false] at hn
  rcases hn with rfl | rfl <;> assumption
theorem alive02_ev : Ev (fun k => tombolalaw02_alive.f k) true := by
  have h1 := lcm_ev [12, 18] (words_pair 12 18 (by omega) (by omega)) (by decide)
  have h2 := gcdAll_ev [12, 18] (words_pair 12 18 (by omega) (by omega)) (by decide)
  have h3 := gcdAll_ev [] (by intro n hn; cases hn) (by decide)
  obtain ⟨r1, e1, o1⟩ := inverse_ev 3 7 (by omega) (by omega)
  obtain ⟨r2, e2, o2⟩ := inverse_ev 3 6 (by omega) (by omega)
  have g1 : Nat.gcd 3 7 = 1 := by decide
  have g2 : ¬ Nat.gcd 3 6 = 1 := by decide
  unfold InvOk at o1 o2
  rw [if_pos g1] at o1
  rw [if_neg g2] at o2
  obtain ⟨i, rfl, hi, hi2⟩ := o1
  obtain rfl : i = 5 := by omega
  subst o2
  have v1 : nb (lcmAll [12, 18]) = (36, true) := by decide
  have v2 : (([12, 18] : List Nat).foldl Nat.gcd 0 : Nat) = 6 := by decide
  rw [v1] at h1
  rw [v2] at h2
  unfold tombolalaw02_alive.f
  refine Ev.bind h1 (Ev.bind e1 (Ev.bind e2 (Ev.bind h2 ?_)))
  have h4 := Ev.bind h3 (f := fun _ t114 => some (t114 == 0)) (Ev.now _)
  exact h4
theorem pureEuclidMods (a b m : Nat) (ha : a < 18446744073709551616) (hb : b < 18446744073709551616) (hm : m < 18446744073709551616) (f : Nat → Int → Int → Int → Option Bool)
    (hf : ∀ k, f k a b m = ((euclid_MulMod.f k a b m).bind fun bt101 => ((euclid_PowMod.f k a b m).bind fun bt103 => (if (m : Int) = 0 then (if bt101.1 = 0 then (if bt101.2 = true then (some false) else (if bt103.1 = 0 then (if bt103.2 = true then (some false) else ((tombolalaw02_alive.f k).bind fun t105 => (some t105))) else (some false))) else (some false)) else (if bt101.2 = true then (if bt103.2 = true then ((tombolaref02_MulMod.f k a b m).bind fun t106 => (if bt101.1 = t106 then ((tombolaref02_PowMod.f k a b m).bind fun t107 => (if bt103.1 = t107 then ((tombolalaw02_alive.f k).bind fun t108 => (some t108)) else (some false))) else (some false))) else (some false)) else (some false)))))) :
    Ev (fun k => f k a b m) true := by
  refine Ev.congr hf ?_
  have al : Ev (fun k => (tombolalaw02_alive.f k).bind fun t => some t) true := Ev.bind alive02_ev (Ev.now _)
  by_cases h0 : m = 0
  · subst h0
    have h1 := mulMod_zero a b ha hb
    have h2 : Ev (fun k => euclid_PowMod.f k a b (0 : Nat)) (0, false) := Ev.congr (fun k => by unfold euclid_PowMod.f; rw [if_pos (show ((0 : Nat) : Int) = 0 from rfl)]) (Ev.now _)
    exact Ev.bind h1 (Ev.bind h2 al)
  · have h1 := mulMod_ev a b m ha hb (by omega) hm
    have h2 := powMod_ev a b m ha hb (by omega) hm
    have h3 := rmulMod_ev a b m ha hb (by omega) hm
    have h4 := rpowMod_ev a b m ha hb (by omega) hm
    refine Ev.bind h1 (Ev.bind h2 ?_)
    refine Ev.congr (fun k => by rw [if_neg (by omega), if_pos rfl, if_pos rfl]) ?_
    refine Ev.bind h3 (Ev.congr (fun k => by rw [if_pos rfl]) ?_)
    exact Ev.bind h4 (Ev.congr (fun k => by rw [if_pos rfl]) al)
end Go.Proofs.YteipfcflijdapaaDoor.N
end
section
namespace Go.Proofs.YteipfcflijdapaaDoor.F
open Go.RowKit Go.Proofs.YteipfcflijdapaaDoorW.PrintWords Go.Proofs.YteipfcflijdapaaDoorW.PrintLast Go.Proofs.YteipfcflijdapaaDoorW.PrintMore
attribute [local go_sem] max2_int min2_int max_two min_two max_three min_three max_four min_four
set_option linter.unusedVariables false
set_option linter.unusedSimpArgs false
def tombolalaw02_EuclidMods.f (k : Nat) (a0 : Int) (a1 : Int) (a2 : Int) : Option (Bool) := (euclid_MulMod.f k a0 a1 a2).bind fun bt101 => ((euclid_PowMod.f k a0 a1 a2).bind fun bt103 => (if a2 = 0 then (if bt101.1 = 0 then (if bt101.2 = true then (some false) else (if bt103.1 = 0 then (if bt103.2 = true then (some false) else ((tombolalaw02_alive.f k).bind fun t105 => (some t105))) else (some false))) else (some false)) else (if bt101.2 = true then (if bt103.2 = true then ((tombolaref02_MulMod.f k a0 a1 a2).bind fun t106 => (if bt101.1 = t106 then ((tombolaref02_PowMod.f k a0 a1 a2).bind fun t107 => (if bt103.1 = t107 then ((tombolalaw02_alive.f k).bind fun t108 => (some t108)) else (some false))) else (some false))) else (some false)) else (some false))))
set_option maxHeartbeats 8000000 in
set_option maxRecDepth 100000 in
theorem tombolalaw02_EuclidMods.calls (k : Nat) (a0 : Int) (a1 : Int) (a2 : Int) (r : Bool) (ht_ : Aside0 (r = true)) (w : World) (h : tombolalaw02_EuclidMods.f k a0 a1 a2 = some r) (HT : Aside0 (Tab w)) :
  Calls Tryd.prog 5 #[.int .u64 a0, .int .u64 a1, .int .u64 a2] w fun e w' => e = .returned (.bool r) ∧ Below w.heap.size w w' := by
 have HB := Aside0.mk (Below.refl w.heap.size w)
 have H : ((euclid_MulMod.f k a0 a1 a2).bind fun bt101 => ((euclid_PowMod.f k a0 a1 a2).bind fun bt103 => (if a2 = 0 then (if bt101.1 = 0 then (if bt101.2 = true then (some false) else (if bt103.1 = 0 then (if bt103.2 = true then (some false) else ((tombolalaw02_alive.f k).bind fun t105 => (some t105))) else (some false))) else (some false)) else (if bt101.2 = true then (if bt103.2 = true then ((tombolaref02_MulMod.f k a0 a1 a2).bind fun t106 => (if bt101.1 = t106 then ((tombolaref02_PowMod.f k a0 a1 a2).bind fun t107 => (if bt103.1 = t107 then ((tombolalaw02_alive.f k).bind fun t108 => (some t108)) else (some false))) else (some false))) else (some false)) else (some false))))) = some r := h
 clear h
 replace H := Option.bind_eq_some_iff.mp H
 obtain ⟨⟨t101, t102⟩, A40, H⟩ := H
 replace H : ((euclid_PowMod.f k a0 a1 a2).bind fun bt103 => (if a2 = 0 then (if t101 = 0 then (if t102 = true then (some false) else (if bt103.1 = 0 then (if bt103.2 = true then (some false) else ((tombolalaw02_alive.f k).bind fun t105 => (some t105))) else (some false))) else (some false)) else (if t102 = true then (if bt103.2 = true then ((tombolaref02_MulMod.f k a0 a1 a2).bind fun t106 => (if t101 = t106 then ((tombolaref02_PowMod.f k a0 a1 a2).bind fun t107 => (if bt103.1 = t107 then ((tombolalaw02_alive.f k).bind fun t108 => (some t108)) else (some false))) else (some false))) else (some false)) else (some false)))) = some r := H
 have A4 := Aside0.mk A40
 clear A40
 replace H := Option.bind_eq_some_iff.mp H
 obtain ⟨⟨t103, t104⟩, A50, H⟩ := H
 replace H : (if a2 = 0 then (if t101 = 0 then (if t102 = true then (some false) else (if t103 = 0 then (if t104 = true then (some false) else ((tombolalaw02_alive.f k).bind fun t105 => (some t105))) else (some false))) else (some false)) else (if t102 = true then (if t104 = true then ((tombolaref02_MulMod.f k a0 a1 a2).bind fun t106 => (if t101 = t106 then ((tombolaref02_PowMod.f k a0 a1 a2).bind fun t107 => (if t103 = t107 then ((tombolalaw02_alive.f k).bind fun t108 => (some t108)) else (some false))) else (some false))) else (some false)) else (some false))) = some r := H
 have A5 := Aside0.mk A50
 clear A50
 by_cases c6 : a2 = 0
 ·rw [if_pos c6] at H
  have c6b0 : (a2 == 0) = true := beq_iff_eq.mpr c6
  have c6b1 : (a2 != 0) = false := bne_eq_false_iff_eq.mpr c6
  clear c6
  by_cases c7 : t101 = 0
  ·rw [if_pos c7] at H
   have c7b0 : (t101 == 0) = true := beq_iff_eq.mpr c7
   have c7b1 : (t101 != 0) = false := bne_eq_false_iff_eq.mpr c7
   clear c7
   by_cases c8 : t102 = true
   ·subst c8
    have H1 : (some false) = some r := by rw [if_pos rfl] at H;exact H
    clear H
    have H := H1
    clear H1
    exact absurd ((Option.some.inj H).trans ht_.out) (by simp)
   ·replace c8 := Bool.eq_false_iff.mpr c8
    subst c8
    have H1 : (if t103 = 0 then (if t104 = true then (some false) else ((tombolalaw02_alive.f k).bind fun t105 => (some t105))) else (some false)) = some r := by rw [if_neg (show ¬ (false = true) by decide)] at H;exact H
    clear H
    have H := H1
    clear H1
    by_cases c9 : t103 = 0
    ·rw [if_pos c9] at H
     have c9b0 : (t103 == 0) = true := beq_iff_eq.mpr c9
     have c9b1 : (t103 != 0) = false := bne_eq_false_iff_eq.mpr c9
     clear c9
     by_cases c10 : t104 = true
     ·subst c10
      have H1 : (some false) = some r := by rw [if_pos rfl] at H;exact H
      clear H
      have H := H1
      clear H1
      exact absurd ((Option.some.inj H).trans ht_.out) (by simp)
     ·replace c10 := Bool.eq_false_iff.mpr c10
      subst c10
      have H1 : ((tombolalaw02_alive.f k).bind fun t105 => (some t105)) = some r := by rw [if_neg (show ¬ (false = true) by decide)] at H;exact H
      clear H
      have H := H1
      clear H1
      replace H := Option.bind_eq_some_iff.mp H
      obtain ⟨t105, A110, H⟩ := H
      replace H : (some t105) = some r := H
      have A11 := Aside0.mk A110
      clear A110
      obtain rfl := Option.some.inj H
      go_enter Tryd.func5, Tryd.ntmps5
      go_wp2_with (first|((with_reducible refine gate_callee (f := 18) rfl ?_);refine goesL_ (some 15) rfl rfl Tryd.func18 (by kernel_rfl) rfl #[.int .u64 a0, .int .u64 a1, .int .u64 a2] rfl (by (try simp only [List.map_toArray, List.map_cons, List.map_nil]);first|done|rfl|(simp only [List.length_drop, List.length_take];rfl)) ?_;(with_reducible refine (euclid_MulMod.calls k a0 a1 a2 t101 false _ A4.out).mono ?_);rintro e w12 ⟨rfl, hb⟩;refine ⟨_, rfl, ?_⟩;have n0_ := Aside0.mk (below_step (by repeat (first|(with_reducible first|exact HB.out|apply below_alloc|apply pw_below_drewN|apply below_drew1)|exact HB.out)) hb);clear HB;have HB := n0_;clear n0_;(try clear hb);(try clear hb2);(try clear hk);(try clear hi))|((with_reducible refine gate_callee (f := 19) rfl ?_);refine goesL_ (some 22) rfl rfl Tryd.func19 (by kernel_rfl) rfl #[.int .u64 a0, .int .u64 a1, .int .u64 a2] rfl (by (try simp only [List.map_toArray, List.map_cons, List.map_nil]);first|done|rfl|(simp only [List.length_drop, List.length_take];rfl)) ?_;(with_reducible refine (euclid_PowMod.calls k a0 a1 a2 t103 false _ A5.out).mono ?_);rintro e w13 ⟨rfl, hb⟩;refine ⟨_, rfl, ?_⟩;have n0_ := Aside0.mk (below_step (by repeat (first|(with_reducible first|exact HB.out|apply below_alloc|apply pw_below_drewN|apply below_drew1)|exact HB.out)) hb);clear HB;have HB := n0_;clear n0_;(try clear hb);(try clear hb2);(try clear hk);(try clear hi))|(go_at_call 10;(with_reducible refine (tombolalaw02_alive.calls k  t105 _ A11.out (by first|exact HT|(refine Tab.later HT ?_;repeat (first|(with_reducible exact HB.out)|(with_reducible exact Below.refl _ _)|apply below_alloc|apply pw_below_drewN|apply below_drew1)))).mono ?_);rintro e w14 ⟨rfl, hb⟩;have n0_ := Aside0.mk (below_step (by repeat (first|(with_reducible first|exact HB.out|apply below_alloc|apply pw_below_drewN|apply below_drew1)|exact HB.out)) hb);clear HB;have HB := n0_;clear n0_;(try clear hb);(try clear hb2);(try clear hk);(try clear hi)))
      go_ret
      exact ⟨by first|rfl|(simp [errW_none, errW_some] <;> rfl)|(simp [*, errW_none, errW_some] <;> rfl), by repeat (first|(with_reducible first|exact HB.out|apply below_alloc|apply pw_below_drewN|apply below_drew1)|exact HB.out)⟩
    ·rw [if_neg c9] at H
     have c9b0 : (t103 == 0) = false := beq_eq_false_iff_ne.mpr c9
     have c9b1 : (t103 != 0) = true := bne_iff_ne.mpr c9
     exact absurd ((Option.some.inj H).trans ht_.out) (by simp)
  ·rw [if_neg c7] at H
   have c7b0 : (t101 == 0) = false := beq_eq_false_iff_ne.mpr c7
   have c7b1 : (t101 != 0) = true := bne_iff_ne.mpr c7
   exact absurd ((Option.some.inj H).trans ht_.out) (by simp)
 ·rw [if_neg c6] at H
  have c6b0 : (a2 == 0) = false := beq_eq_false_iff_ne.mpr c6
  have c6b1 : (a2 != 0) = true := bne_iff_ne.mpr c6
  by_cases c15 : t102 = true
  ·subst c15
   have H1 : (if t104 = true then ((tombolaref02_MulMod.f k a0 a1 a2).bind fun t106 => (if t101 = t106 then ((tombolaref02_PowMod.f k a0 a1 a2).bind fun t107 => (if t103 = t107 then ((tombolalaw02_alive.f k).bind fun t108 => (some t108)) else (some false))) else (some false))) else (some false)) = some r := by rw [if_pos rfl] at H;exact H
   clear H
   have H := H1
   clear H1
   by_cases c16 : t104 = true
   ·subst c16
    have H1 : ((tombolaref02_MulMod.f k a0 a1 a2).bind fun t106 => (if t101 = t106 then ((tombolaref02_PowMod.f k a0 a1 a2).bind fun t107 => (if t103 = t107 then ((tombolalaw02_alive.f k).bind fun t108 => (some t108)) else (some false))) else (some false))) = some r := by rw [if_pos rfl] at H;exact H
    clear H
    have H := H1
    clear H1
    replace H := Option.bind_eq_some_iff.mp H
    obtain ⟨t106, A170, H⟩ := H
    replace H : (if t101 = t106 then ((tombolaref02_PowMod.f k a0 a1 a2).bind fun t107 => (if t103 = t107 then ((tombolalaw02_alive.f k).bind fun t108 => (some t108)) else (some false))) else (some false)) = some r := H
    have A17 := Aside0.mk A170
    clear A170
    by_cases c18 : t101 = t106
    ·rw [if_pos c18] at H
     have c18b0 : (t101 == t106) = true := beq_iff_eq.mpr c18
     have c18b1 : (t101 != t106) = false := bne_eq_false_iff_eq.mpr c18
     clear c18
     replace H := Option.bind_eq_some_iff.mp H
     obtain ⟨t107, A190, H⟩ := H
     replace H : (if t103 = t107 then ((tombolalaw02_alive.f k).bind fun t108 => (some t108)) else (some false)) = some r := H
     have A19 := Aside0.mk A190
     clear A190
     by_cases c20 : t103 = t107
     ·rw [if_pos c20] at H
      have c20b0 : (t103 == t107) = true := beq_iff_eq.mpr c20
      have c20b1 : (t103 != t107) = false := bne_eq_false_iff_eq.mpr c20
      clear c20
      replace H := Option.bind_eq_some_iff.mp H
      obtain ⟨t108, A210, H⟩ := H
      replace H : (some t108) = some r := H
      have A21 := Aside0.mk A210
      clear A210
      obtain rfl := Option.some.inj H
      go_enter Tryd.func5, Tryd.ntmps5
      go_wp2_with (first|((with_reducible refine gate_callee (f := 18) rfl ?_);refine goesL_ (some 15) rfl rfl Tryd.func18 (by kernel_rfl) rfl #[.int .u64 a0, .int .u64 a1, .int .u64 a2] rfl (by (try simp only [List.map_toArray, List.map_cons, List.map_nil]);first|done|rfl|(simp only [List.length_drop, List.length_take];rfl)) ?_;(with_reducible refine (euclid_MulMod.calls k a0 a1 a2 t101 true _ A4.out).mono ?_);rintro e w22 ⟨rfl, hb⟩;refine ⟨_, rfl, ?_⟩;have n0_ := Aside0.mk (below_step (by repeat (first|(with_reducible first|exact HB.out|apply below_alloc|apply pw_below_drewN|apply below_drew1)|exact HB.out)) hb);clear HB;have HB := n0_;clear n0_;(try clear hb);(try clear hb2);(try clear hk);(try clear hi))|((with_reducible refine gate_callee (f := 19) rfl ?_);refine goesL_ (some 22) rfl rfl Tryd.func19 (by kernel_rfl) rfl #[.int .u64 a0, .int .u64 a1, .int .u64 a2] rfl (by (try simp only [List.map_toArray, List.map_cons, List.map_nil]);first|done|rfl|(simp only [List.length_drop, List.length_take];rfl)) ?_;(with_reducible refine (euclid_PowMod.calls k a0 a1 a2 t103 true _ A5.out).mono ?_);rintro e w23 ⟨rfl, hb⟩;refine ⟨_, rfl, ?_⟩;have n0_ := Aside0.mk (below_step (by repeat (first|(with_reducible first|exact HB.out|apply below_alloc|apply pw_below_drewN|apply below_drew1)|exact HB.out)) hb);clear HB;have HB := n0_;clear n0_;(try clear hb);(try clear hb2);(try clear hk);(try clear hi))|(go_at_call 8;(with_reducible refine (tombolaref02_MulMod.calls k a0 a1 a2 t106 _ A17.out).mono ?_);rintro e w24 ⟨rfl, hb⟩;have n0_ := Aside0.mk (below_step (by repeat (first|(with_reducible first|exact HB.out|apply below_alloc|apply pw_below_drewN|apply below_drew1)|exact HB.out)) hb);clear HB;have HB := n0_;clear n0_;(try clear hb);(try clear hb2);(try clear hk);(try clear hi))|(go_at_call 20;(with_reducible refine (tombolaref02_PowMod.calls k a0 a1 a2 t107 _ A19.out).mono ?_);rintro e w25 ⟨rfl, hb⟩;have n0_ := Aside0.mk (below_step (by repeat (first|(with_reducible first|exact HB.out|apply below_alloc|apply pw_below_drewN|apply below_drew1)|exact HB.out)) hb);clear HB;have HB := n0_;clear n0_;(try clear hb);(try clear hb2);(try clear hk);(try clear hi))|(go_at_call 10;(with_reducible refine (tombolalaw02_alive.calls k  t108 _ A21.out (by first|exact HT|(refine Tab.later HT ?_;repeat (first|(with_reducible exact HB.out)|(with_reducible exact Below.refl _ _)|apply below_alloc|apply pw_below_drewN|apply below_drew1)))).mono ?_);rintro e w26 ⟨rfl, hb⟩;have n0_ := Aside0.mk (below_step (by repeat (first|(with_reducible first|exact HB.out|apply below_alloc|apply pw_below_drewN|apply below_drew1)|exact HB.out)) hb);clear HB;have HB := n0_;clear n0_;(try clear hb);(try clear hb2);(try clear hk);(try clear hi)))
      go_ret
      exact ⟨by first|rfl|(simp [errW_none, errW_some] <;> rfl)|(simp [*, errW_none, errW_some] <;> rfl), by repeat (first|(with_reducible first|exact HB.out|apply below_alloc|apply pw_below_drewN|apply below_drew1)|exact HB.out)⟩
     ·rw [if_neg c20] at H
      have c20b0 : (t103 == t107) = false := beq_eq_false_iff_ne.mpr c20
      have c20b1 : (t103 != t107) = true := bne_iff_ne.mpr c20
      exact absurd ((Option.some.inj H).trans ht_.out) (by simp)
    ·rw [if_neg c18] at H
     have c18b0 : (t101 == t106) = false := beq_eq_false_iff_ne.mpr c18
     have c18b1 : (t101 != t106) = true := bne_iff_ne.mpr c18
     exact absurd ((Option.some.inj H).trans ht_.out) (by simp)
   ·replace c16 := Bool.eq_false_iff.mpr c16
    subst c16
    have H1 : (some false) = some r := by rw [if_neg (show ¬ (false = true) by decide)] at H;exact H
    clear H
    have H := H1
    clear H1
    exact absurd ((Option.some.inj H).trans ht_.out) (by simp)
  ·replace c15 := Bool.eq_false_iff.mpr c15
   subst c15
   have H1 : (some false) = some r := by rw [if_neg (show ¬ (false = true) by decide)] at H;exact H
   clear H
   have H := H1
   clear H1
   exact absurd ((Option.some.inj H).trans ht_.out) (by simp)
end Go.Proofs.YteipfcflijdapaaDoor.F
end
section
namespace Go.Proofs.YteipfcflijdapaaDoor.N
open Go Go.RowKit Go.Proofs.YteipfcflijdapaaDoor.F Go.Proofs.YteipfcflijdapaaDoorW.PrintWords Go.Proofs.YteipfcflijdapaaDoorW.PrintLast Go.Proofs.YteipfcflijdapaaDoorW.PrintMore Go.Proofs.YteipfcflijdapaaDoor.Digs
set_option linter.unusedSimpArgs false
set_option linter.unusedVariables false
theorem mainEuclidMods (a b m : Int) (w : World) (wa : (Lit.int .u64 a).wf = true) (wb : (Lit.int .u64 b).wf = true) (wm : (Lit.int .u64 m).wf = true) (HT : Aside0 (Tab w)) :
    Calls Tryd.prog 5 #[.int .u64 a, .int .u64 b, .int .u64 m] w fun e w' => e = .returned (.bool true) ∧ Below w.heap.size w w' := by
  obtain ⟨a, rfl, ha⟩ := word_of wa
  obtain ⟨b, rfl, hb⟩ := word_of wb
  obtain ⟨m, rfl, hm⟩ := word_of wm
  obtain ⟨k, hk⟩ := (pureEuclidMods a b m ha hb hm tombolalaw02_EuclidMods.f (fun k => rfl)).rounds
  exact tombolalaw02_EuclidMods.calls k a b m true ⟨rfl⟩ w hk HT
end Go.Proofs.YteipfcflijdapaaDoor.N
end
section
namespace Go.Proofs.YteipfcflijdapaaDoorW.PrintWords
open Go.ChangeShapes Go.WideShapes
end Go.Proofs.YteipfcflijdapaaDoorW.PrintWords
end
