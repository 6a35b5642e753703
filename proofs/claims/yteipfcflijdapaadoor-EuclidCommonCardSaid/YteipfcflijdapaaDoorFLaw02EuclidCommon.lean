-- Cut for this claim by a program (wip/prune.py) out of the texts that its bench laid or wrote
import Derived.Test.YteipfcflijdapaaDoorDigs
import Derived.Test.YteipfcflijdapaaDoorFEuclidA
import Derived.Test.YteipfcflijdapaaDoorFLaw02alive
import Derived.Test.YteipfcflijdapaaDoorFRef02A
namespace Go.Proofs.YteipfcflijdapaaDoor.F
open Go.RowKit Go.Proofs.YteipfcflijdapaaDoorW.PrintWords Go.Proofs.YteipfcflijdapaaDoorW.PrintLast Go.Proofs.YteipfcflijdapaaDoorW.PrintMore
attribute [local go_sem] max2_int min2_int max_two min_two max_three min_three max_four min_four
set_option linter.unusedVariables false
set_option linter.unusedSimpArgs false
def tombolalaw02_EuclidCommon.f (k : Nat) (l0 : List Int) (a1 : Int) (a2 : Int) : Option (Bool) := if (l0.length : Int) > 50 then ((tombolalaw02_alive.f k).bind fun t101 => (some t101)) else ((euclid_Lcm.f k l0).bind fun bt102 => ((tombolaref02_Lcm.f k l0).bind fun bt104 => ((euclid_Reduce.f k a1 a2).bind fun bt106 => ((tombolaref02_Gcd.f k a1 a2).bind fun t108 => (if t108 = 0 then (if bt106.1 = 0 then (if bt106.2 = 0 then ((tombolalaw02_alive.f k).bind fun t109 => (some t109)) else (some false)) else (some false)) else ((euclid_Gcd.f k l0).bind fun t110 => ((tombolaref02_All.f k l0).bind fun t111 => (if t110 = t111 then (if bt102.1 = bt104.1 then (if (bt102.2 == bt104.2) = true then (if bt106.1 = (IntKind.u64.wrap (Int.tdiv a1 t108)) then (if bt106.2 = (IntKind.u64.wrap (Int.tdiv a2 t108)) then ((tombolalaw02_alive.f k).bind fun t112 => (some t112)) else (some false)) else (some false)) else (some false)) else (some false)) else (some false)))))))))
set_option maxHeartbeats 8000000 in
set_option maxRecDepth 100000 in
theorem tombolalaw02_EuclidCommon.calls (k : Nat) (A0 : Option Addr) (c0 : Nat) (l0 : List Int) (a1 : Int) (a2 : Int) (r : Bool) (ht_ : Aside0 (r = true)) (w : World) (hr0 : Kd.C (Kd.int .u64) w A0 l0.length l0) (hc0 : l0.length ≤ c0) (h : tombolalaw02_EuclidCommon.f k l0 a1 a2 = some r) (HT : Aside0 (Tab w)) :
  Calls Tryd.prog 4 #[.slice A0 l0.length c0, .int .u64 a1, .int .u64 a2] w fun e w' => e = .returned (.bool r) ∧ Below w.heap.size w w' := by
 have HR0 := Aside0.mk hr0
 have HC0 := Aside0.mk hc0
 clear hr0 hc0
 have HB := Aside0.mk (Below.refl w.heap.size w)
 have H : (if (l0.length : Int) > 50 then ((tombolalaw02_alive.f k).bind fun t101 => (some t101)) else ((euclid_Lcm.f k l0).bind fun bt102 => ((tombolaref02_Lcm.f k l0).bind fun bt104 => ((euclid_Reduce.f k a1 a2).bind fun bt106 => ((tombolaref02_Gcd.f k a1 a2).bind fun t108 => (if t108 = 0 then (if bt106.1 = 0 then (if bt106.2 = 0 then ((tombolalaw02_alive.f k).bind fun t109 => (some t109)) else (some false)) else (some false)) else ((euclid_Gcd.f k l0).bind fun t110 => ((tombolaref02_All.f k l0).bind fun t111 => (if t110 = t111 then (if bt102.1 = bt104.1 then (if (bt102.2 == bt104.2) = true then (if bt106.1 = (IntKind.u64.wrap (Int.tdiv a1 t108)) then (if bt106.2 = (IntKind.u64.wrap (Int.tdiv a2 t108)) then ((tombolalaw02_alive.f k).bind fun t112 => (some t112)) else (some false)) else (some false)) else (some false)) else (some false)) else (some false)))))))))) = some r := h
 clear h
 by_cases c4 : (l0.length : Int) > 50
 ·rw [if_pos c4] at H
  have c4b0 : decide (50 < (l0.length : Int)) = true := decide_eq_true c4
  have c4b1 : decide (50 < l0.length) = true := decide_eq_true (by omega)
  clear c4
  replace H := Option.bind_eq_some_iff.mp H
  obtain ⟨t101, A50, H⟩ := H
  replace H : (some t101) = some r := H
  have A5 := Aside0.mk A50
  clear A50
  obtain rfl := Option.some.inj H
  go_enter Tryd.func4, Tryd.ntmps4
  go_wp2_with (first|((with_reducible refine gate_callee (f := 10) rfl ?_);refine goesL_ (some 17) rfl rfl Tryd.func10 (by kernel_rfl) rfl #[] rfl (by (try simp only [List.map_toArray, List.map_cons, List.map_nil]);first|done|rfl|(simp only [List.length_drop, List.length_take];rfl)) ?_;(with_reducible refine (tombolalaw02_alive.calls k  t101 _ A5.out (by first|exact HT|(refine Tab.later HT ?_;repeat (first|(with_reducible exact HB.out)|(with_reducible exact Below.refl _ _)|apply below_alloc|apply pw_below_drewN|apply below_drew1)))).mono ?_);rintro e w6 ⟨rfl, hb⟩;refine ⟨_, rfl, ?_⟩;have n0_ := Aside0.mk (below_step (by repeat (first|(with_reducible first|exact HB.out|apply below_alloc|apply pw_below_drewN|apply below_drew1)|exact HB.out)) hb);clear HB;have HB := n0_;clear n0_;(try clear hb);(try clear hb2);(try clear hk);(try clear hi)))
  go_ret
  exact ⟨by first|rfl|(simp [errW_none, errW_some] <;> rfl)|(simp [*, errW_none, errW_some] <;> rfl), by repeat (first|(with_reducible first|exact HB.out|apply below_alloc|apply pw_below_drewN|apply below_drew1)|exact HB.out)⟩
 ·rw [if_neg c4] at H
  have c4b0 : decide (50 < (l0.length : Int)) = false := decide_eq_false c4
  have c4b1 : decide (50 < l0.length) = false := decide_eq_false (by omega)
  clear c4
  replace H := Option.bind_eq_some_iff.mp H
  obtain ⟨⟨t102, t103⟩, A70, H⟩ := H
  replace H : ((tombolaref02_Lcm.f k l0).bind fun bt104 => ((euclid_Reduce.f k a1 a2).bind fun bt106 => ((tombolaref02_Gcd.f k a1 a2).bind fun t108 => (if t108 = 0 then (if bt106.1 = 0 then (if bt106.2 = 0 then ((tombolalaw02_alive.f k).bind fun t109 => (some t109)) else (some false)) else (some false)) else ((euclid_Gcd.f k l0).bind fun t110 => ((tombolaref02_All.f k l0).bind fun t111 => (if t110 = t111 then (if t102 = bt104.1 then (if (t103 == bt104.2) = true then (if bt106.1 = (IntKind.u64.wrap (Int.tdiv a1 t108)) then (if bt106.2 = (IntKind.u64.wrap (Int.tdiv a2 t108)) then ((tombolalaw02_alive.f k).bind fun t112 => (some t112)) else (some false)) else (some false)) else (some false)) else (some false)) else (some false)))))))) = some r := H
  have A7 := Aside0.mk A70
  clear A70
  replace H := Option.bind_eq_some_iff.mp H
  obtain ⟨⟨t104, t105⟩, A80, H⟩ := H
  replace H : ((euclid_Reduce.f k a1 a2).bind fun bt106 => ((tombolaref02_Gcd.f k a1 a2).bind fun t108 => (if t108 = 0 then (if bt106.1 = 0 then (if bt106.2 = 0 then ((tombolalaw02_alive.f k).bind fun t109 => (some t109)) else (some false)) else (some false)) else ((euclid_Gcd.f k l0).bind fun t110 => ((tombolaref02_All.f k l0).bind fun t111 => (if t110 = t111 then (if t102 = t104 then (if (t103 == t105) = true then (if bt106.1 = (IntKind.u64.wrap (Int.tdiv a1 t108)) then (if bt106.2 = (IntKind.u64.wrap (Int.tdiv a2 t108)) then ((tombolalaw02_alive.f k).bind fun t112 => (some t112)) else (some false)) else (some false)) else (some false)) else (some false)) else (some false))))))) = some r := H
  have A8 := Aside0.mk A80
  clear A80
  replace H := Option.bind_eq_some_iff.mp H
  obtain ⟨⟨t106, t107⟩, A90, H⟩ := H
  replace H : ((tombolaref02_Gcd.f k a1 a2).bind fun t108 => (if t108 = 0 then (if t106 = 0 then (if t107 = 0 then ((tombolalaw02_alive.f k).bind fun t109 => (some t109)) else (some false)) else (some false)) else ((euclid_Gcd.f k l0).bind fun t110 => ((tombolaref02_All.f k l0).bind fun t111 => (if t110 = t111 then (if t102 = t104 then (if (t103 == t105) = true then (if t106 = (IntKind.u64.wrap (Int.tdiv a1 t108)) then (if t107 = (IntKind.u64.wrap (Int.tdiv a2 t108)) then ((tombolalaw02_alive.f k).bind fun t112 => (some t112)) else (some false)) else (some false)) else (some false)) else (some false)) else (some false)))))) = some r := H
  have A9 := Aside0.mk A90
  clear A90
  replace H := Option.bind_eq_some_iff.mp H
  obtain ⟨t108, A100, H⟩ := H
  replace H : (if t108 = 0 then (if t106 = 0 then (if t107 = 0 then ((tombolalaw02_alive.f k).bind fun t109 => (some t109)) else (some false)) else (some false)) else ((euclid_Gcd.f k l0).bind fun t110 => ((tombolaref02_All.f k l0).bind fun t111 => (if t110 = t111 then (if t102 = t104 then (if (t103 == t105) = true then (if t106 = (IntKind.u64.wrap (Int.tdiv a1 t108)) then (if t107 = (IntKind.u64.wrap (Int.tdiv a2 t108)) then ((tombolalaw02_alive.f k).bind fun t112 => (some t112)) else (some false)) else (some false)) else (some false)) else (some false)) else (some false))))) = some r := H
  have A10 := Aside0.mk A100
  clear A100
  by_cases c11 : t108 = 0
  ·rw [if_pos c11] at H
   have c11b0 : (t108 == 0) = true := beq_iff_eq.mpr c11
   have c11b1 : (t108 != 0) = false := bne_eq_false_iff_eq.mpr c11
   clear c11
   by_cases c12 : t106 = 0
   ·rw [if_pos c12] at H
    have c12b0 : (t106 == 0) = true := beq_iff_eq.mpr c12
    have c12b1 : (t106 != 0) = false := bne_eq_false_iff_eq.mpr c12
    clear c12
    by_cases c13 : t107 = 0
    ·rw [if_pos c13] at H
     have c13b0 : (t107 == 0) = true := beq_iff_eq.mpr c13
     have c13b1 : (t107 != 0) = false := bne_eq_false_iff_eq.mpr c13
     clear c13
     replace H := Option.bind_eq_some_iff.mp H
     obtain ⟨t109, A140, H⟩ := H
     replace H : (some t109) = some r := H
     have A14 := Aside0.mk A140
     clear A140
     obtain rfl := Option.some.inj H
     go_enter Tryd.func4, Tryd.ntmps4
     go_wp2_with (first|((with_reducible refine gate_callee (f := 9) rfl ?_);refine goesL_ (some 20) rfl rfl Tryd.func9 (by kernel_rfl) rfl #[.slice A0 l0.length c0] rfl (by (try simp only [List.map_toArray, List.map_cons, List.map_nil]);first|done|rfl|(simp only [List.length_drop, List.length_take];rfl)) ?_;(with_reducible refine (euclid_Lcm.calls k _ _ l0 t102 t103 _ ?side1 ?side2 A7.out (by first|exact HT|(refine Tab.later HT ?_;repeat (first|(with_reducible exact HB.out)|(with_reducible exact Below.refl _ _)|apply below_alloc|apply pw_below_drewN|apply below_drew1)))).mono ?_);(case side1 => repeat (first|exact HR0.out|(with_reducible refine Kd.C_alloc ?_ _)|(with_reducible refine Kd.C_drewN ?_ _)|(with_reducible refine Kd.C_drew ?_)));(case side2 => exact HC0.out);rintro e w15 ⟨rfl, hb⟩;refine ⟨_, rfl, ?_⟩;have n0_ := Aside0.mk (below_step (by repeat (first|(with_reducible first|exact HB.out|apply below_alloc|apply pw_below_drewN|apply below_drew1)|exact HB.out)) hb);clear HB;have HB := n0_;clear n0_;(try clear hb);(try clear hb2);(try clear hk);(try clear hi))|((with_reducible refine gate_callee (f := 15) rfl ?_);refine goesL_ (some 25) rfl rfl Tryd.func15 (by kernel_rfl) rfl #[.slice A0 l0.length c0] rfl (by (try simp only [List.map_toArray, List.map_cons, List.map_nil]);first|done|rfl|(simp only [List.length_drop, List.length_take];rfl)) ?_;(with_reducible refine (tombolaref02_Lcm.calls k _ _ l0 t104 t105 _ ?side1 ?side2 A8.out).mono ?_);(case side1 => repeat (first|exact (Kd.C_below HR0.out HB.out)|(with_reducible refine Kd.C_alloc ?_ _)|(with_reducible refine Kd.C_drewN ?_ _)|(with_reducible refine Kd.C_drew ?_)));(case side2 => exact HC0.out);rintro e w16 ⟨rfl, hb⟩;refine ⟨_, rfl, ?_⟩;have n0_ := Aside0.mk (below_step (by repeat (first|(with_reducible first|exact HB.out|apply below_alloc|apply pw_below_drewN|apply below_drew1)|exact HB.out)) hb);clear HB;have HB := n0_;clear n0_;(try clear hb);(try clear hb2);(try clear hk);(try clear hi))|((with_reducible refine gate_callee (f := 16) rfl ?_);refine goesL_ (some 31) rfl rfl Tryd.func16 (by kernel_rfl) rfl #[.int .u64 a1, .int .u64 a2] rfl (by (try simp only [List.map_toArray, List.map_cons, List.map_nil]);first|done|rfl|(simp only [List.length_drop, List.length_take];rfl)) ?_;(with_reducible refine (euclid_Reduce.calls k a1 a2 t106 t107 _ A9.out (by first|exact HT|(refine Tab.later HT ?_;repeat (first|(with_reducible exact HB.out)|(with_reducible exact Below.refl _ _)|apply below_alloc|apply pw_below_drewN|apply below_drew1)))).mono ?_);rintro e w' ⟨rfl, ⟨nd, rfl⟩⟩;refine ⟨_, rfl, ?_⟩)|((with_reducible refine gate_callee (f := 7) rfl ?_);refine goesL_ (some 36) rfl rfl Tryd.func7 (by kernel_rfl) rfl #[.int .u64 a1, .int .u64 a2] rfl (by (try simp only [List.map_toArray, List.map_cons, List.map_nil]);first|done|rfl|(simp only [List.length_drop, List.length_take];rfl)) ?_;(with_reducible refine (tombolaref02_Gcd.calls k a1 a2 t108 _ A10.out).mono ?_);rintro e w' ⟨rfl, ⟨nd, rfl⟩⟩;refine ⟨_, rfl, ?_⟩)|(go_at_call 10;(with_reducible refine (tombolalaw02_alive.calls k  t109 _ A14.out (by first|exact HT|(refine Tab.later HT ?_;repeat (first|(with_reducible exact HB.out)|(with_reducible exact Below.refl _ _)|apply below_alloc|apply pw_below_drewN|apply below_drew1)))).mono ?_);rintro e w17 ⟨rfl, hb⟩;have n0_ := Aside0.mk (below_step (by repeat (first|(with_reducible first|exact HB.out|apply below_alloc|apply pw_below_drewN|apply below_drew1)|exact HB.out)) hb);clear HB;have HB := n0_;clear n0_;(try clear hb);(try clear hb2);(try clear hk);(try clear hi)))
     go_ret
     exact ⟨by first|rfl|(simp [errW_none, errW_some] <;> rfl)|(simp [*, errW_none, errW_some] <;> rfl), by repeat (first|(with_reducible first|exact HB.out|apply below_alloc|apply pw_below_drewN|apply below_drew1)|exact HB.out)⟩
    ·rw [if_neg c13] at H
     have c13b0 : (t107 == 0) = false := beq_eq_false_iff_ne.mpr c13
     have c13b1 : (t107 != 0) = true := bne_iff_ne.mpr c13
     exact absurd ((Option.some.inj H).trans ht_.out) (by simp)
   ·rw [if_neg c12] at H
    have c12b0 : (t106 == 0) = false := beq_eq_false_iff_ne.mpr c12
    have c12b1 : (t106 != 0) = true := bne_iff_ne.mpr c12
    exact absurd ((Option.some.inj H).trans ht_.out) (by simp)
  ·rw [if_neg c11] at H
   have c11b0 : (t108 == 0) = false := beq_eq_false_iff_ne.mpr c11
   have c11b1 : (t108 != 0) = true := bne_iff_ne.mpr c11
   replace H := Option.bind_eq_some_iff.mp H
   obtain ⟨t110, A180, H⟩ := H
   replace H : ((tombolaref02_All.f k l0).bind fun t111 => (if t110 = t111 then (if t102 = t104 then (if (t103 == t105) = true then (if t106 = (IntKind.u64.wrap (Int.tdiv a1 t108)) then (if t107 = (IntKind.u64.wrap (Int.tdiv a2 t108)) then ((tombolalaw02_alive.f k).bind fun t112 => (some t112)) else (some false)) else (some false)) else (some false)) else (some false)) else (some false))) = some r := H
   have A18 := Aside0.mk A180
   clear A180
   replace H := Option.bind_eq_some_iff.mp H
   obtain ⟨t111, A190, H⟩ := H
   replace H : (if t110 = t111 then (if t102 = t104 then (if (t103 == t105) = true then (if t106 = (IntKind.u64.wrap (Int.tdiv a1 t108)) then (if t107 = (IntKind.u64.wrap (Int.tdiv a2 t108)) then ((tombolalaw02_alive.f k).bind fun t112 => (some t112)) else (some false)) else (some false)) else (some false)) else (some false)) else (some false)) = some r := H
   have A19 := Aside0.mk A190
   clear A190
   by_cases c20 : t110 = t111
   ·rw [if_pos c20] at H
    have c20b0 : (t110 == t111) = true := beq_iff_eq.mpr c20
    have c20b1 : (t110 != t111) = false := bne_eq_false_iff_eq.mpr c20
    clear c20
    by_cases c21 : t102 = t104
    ·rw [if_pos c21] at H
     have c21b0 : (t102 == t104) = true := beq_iff_eq.mpr c21
     have c21b1 : (t102 != t104) = false := bne_eq_false_iff_eq.mpr c21
     clear c21
     by_cases c22 : (t103 == t105) = true
     ·rw [if_pos c22] at H
      have c22b0 : (t103 == t105) = true := c22
      (try (have c22b1 : decide (t103 = t105) = true := by simpa using c22))
      (try (have c22b2 : (t103 == t105) = true := by simpa using c22))
      clear c22
      by_cases c23 : t106 = (IntKind.u64.wrap (Int.tdiv a1 t108))
      ·rw [if_pos c23] at H
       have c23b0 : (t106 == (IntKind.u64.wrap (Int.tdiv a1 t108))) = true := beq_iff_eq.mpr c23
       have c23b1 : (t106 != (IntKind.u64.wrap (Int.tdiv a1 t108))) = false := bne_eq_false_iff_eq.mpr c23
       clear c23
       by_cases c24 : t107 = (IntKind.u64.wrap (Int.tdiv a2 t108))
       ·rw [if_pos c24] at H
        have c24b0 : (t107 == (IntKind.u64.wrap (Int.tdiv a2 t108))) = true := beq_iff_eq.mpr c24
        have c24b1 : (t107 != (IntKind.u64.wrap (Int.tdiv a2 t108))) = false := bne_eq_false_iff_eq.mpr c24
        clear c24
        replace H := Option.bind_eq_some_iff.mp H
        obtain ⟨t112, A250, H⟩ := H
        replace H : (some t112) = some r := H
        have A25 := Aside0.mk A250
        clear A250
        obtain rfl := Option.some.inj H
        go_enter Tryd.func4, Tryd.ntmps4
        go_wp2_with (first|((with_reducible refine gate_callee (f := 9) rfl ?_);refine goesL_ (some 20) rfl rfl Tryd.func9 (by kernel_rfl) rfl #[.slice A0 l0.length c0] rfl (by (try simp only [List.map_toArray, List.map_cons, List.map_nil]);first|done|rfl|(simp only [List.length_drop, List.length_take];rfl)) ?_;(with_reducible refine (euclid_Lcm.calls k _ _ l0 t102 t103 _ ?side1 ?side2 A7.out (by first|exact HT|(refine Tab.later HT ?_;repeat (first|(with_reducible exact HB.out)|(with_reducible exact Below.refl _ _)|apply below_alloc|apply pw_below_drewN|apply below_drew1)))).mono ?_);(case side1 => repeat (first|exact HR0.out|(with_reducible refine Kd.C_alloc ?_ _)|(with_reducible refine Kd.C_drewN ?_ _)|(with_reducible refine Kd.C_drew ?_)));(case side2 => exact HC0.out);rintro e w26 ⟨rfl, hb⟩;refine ⟨_, rfl, ?_⟩;have n0_ := Aside0.mk (below_step (by repeat (first|(with_reducible first|exact HB.out|apply below_alloc|apply pw_below_drewN|apply below_drew1)|exact HB.out)) hb);clear HB;have HB := n0_;clear n0_;(try clear hb);(try clear hb2);(try clear hk);(try clear hi))|((with_reducible refine gate_callee (f := 15) rfl ?_);refine goesL_ (some 25) rfl rfl Tryd.func15 (by kernel_rfl) rfl #[.slice A0 l0.length c0] rfl (by (try simp only [List.map_toArray, List.map_cons, List.map_nil]);first|done|rfl|(simp only [List.length_drop, List.length_take];rfl)) ?_;(with_reducible refine (tombolaref02_Lcm.calls k _ _ l0 t104 t105 _ ?side1 ?side2 A8.out).mono ?_);(case side1 => repeat (first|exact (Kd.C_below HR0.out HB.out)|(with_reducible refine Kd.C_alloc ?_ _)|(with_reducible refine Kd.C_drewN ?_ _)|(with_reducible refine Kd.C_drew ?_)));(case side2 => exact HC0.out);rintro e w27 ⟨rfl, hb⟩;refine ⟨_, rfl, ?_⟩;have n0_ := Aside0.mk (below_step (by repeat (first|(with_reducible first|exact HB.out|apply below_alloc|apply pw_below_drewN|apply below_drew1)|exact HB.out)) hb);clear HB;have HB := n0_;clear n0_;(try clear hb);(try clear hb2);(try clear hk);(try clear hi))|((with_reducible refine gate_callee (f := 16) rfl ?_);refine goesL_ (some 31) rfl rfl Tryd.func16 (by kernel_rfl) rfl #[.int .u64 a1, .int .u64 a2] rfl (by (try simp only [List.map_toArray, List.map_cons, List.map_nil]);first|done|rfl|(simp only [List.length_drop, List.length_take];rfl)) ?_;(with_reducible refine (euclid_Reduce.calls k a1 a2 t106 t107 _ A9.out (by first|exact HT|(refine Tab.later HT ?_;repeat (first|(with_reducible exact HB.out)|(with_reducible exact Below.refl _ _)|apply below_alloc|apply pw_below_drewN|apply below_drew1)))).mono ?_);rintro e w' ⟨rfl, ⟨nd, rfl⟩⟩;refine ⟨_, rfl, ?_⟩)|((with_reducible refine gate_callee (f := 7) rfl ?_);refine goesL_ (some 36) rfl rfl Tryd.func7 (by kernel_rfl) rfl #[.int .u64 a1, .int .u64 a2] rfl (by (try simp only [List.map_toArray, List.map_cons, List.map_nil]);first|done|rfl|(simp only [List.length_drop, List.length_take];rfl)) ?_;(with_reducible refine (tombolaref02_Gcd.calls k a1 a2 t108 _ A10.out).mono ?_);rintro e w' ⟨rfl, ⟨nd, rfl⟩⟩;refine ⟨_, rfl, ?_⟩)|((with_reducible refine gate_callee (f := 14) rfl ?_);refine goesL_ (some 49) rfl rfl Tryd.func14 (by kernel_rfl) rfl #[.slice A0 l0.length c0] rfl (by (try simp only [List.map_toArray, List.map_cons, List.map_nil]);first|done|rfl|(simp only [List.length_drop, List.length_take];rfl)) ?_;(with_reducible refine (euclid_Gcd.calls k _ _ l0 t110 _ ?side1 ?side2 A18.out (by first|exact HT|(refine Tab.later HT ?_;repeat (first|(with_reducible exact HB.out)|(with_reducible exact Below.refl _ _)|apply below_alloc|apply pw_below_drewN|apply below_drew1)))).mono ?_);(case side1 => repeat (first|exact (Kd.C_below HR0.out (by repeat (first|(with_reducible first|exact HB.out|apply below_alloc|apply pw_below_drewN|apply below_drew1)|exact HB.out)))|(with_reducible refine Kd.C_alloc ?_ _)|(with_reducible refine Kd.C_drewN ?_ _)|(with_reducible refine Kd.C_drew ?_)));(case side2 => exact HC0.out);rintro e w' ⟨rfl, ⟨nd, rfl⟩⟩;refine ⟨_, rfl, ?_⟩)|((with_reducible refine gate_callee (f := 17) rfl ?_);refine goesL_ (some 51) rfl rfl Tryd.func17 (by kernel_rfl) rfl #[.slice A0 l0.length c0] rfl (by (try simp only [List.map_toArray, List.map_cons, List.map_nil]);first|done|rfl|(simp only [List.length_drop, List.length_take];rfl)) ?_;(with_reducible refine (tombolaref02_All.calls k _ _ l0 t111 _ ?side1 ?side2 A19.out).mono ?_);(case side1 => repeat (first|exact (Kd.C_below HR0.out (by repeat (first|(with_reducible first|exact HB.out|apply below_alloc|apply pw_below_drewN|apply below_drew1)|exact HB.out)))|(with_reducible refine Kd.C_alloc ?_ _)|(with_reducible refine Kd.C_drewN ?_ _)|(with_reducible refine Kd.C_drew ?_)));(case side2 => exact HC0.out);rintro e w' ⟨rfl, ⟨nd, rfl⟩⟩;refine ⟨_, rfl, ?_⟩)|(go_at_call 10;(with_reducible refine (tombolalaw02_alive.calls k  t112 _ A25.out (by first|exact HT|(refine Tab.later HT ?_;repeat (first|(with_reducible exact HB.out)|(with_reducible exact Below.refl _ _)|apply below_alloc|apply pw_below_drewN|apply below_drew1)))).mono ?_);rintro e w28 ⟨rfl, hb⟩;have n0_ := Aside0.mk (below_step (by repeat (first|(with_reducible first|exact HB.out|apply below_alloc|apply pw_below_drewN|apply below_drew1)|exact HB.out)) hb);clear HB;have HB := n0_;clear n0_;(try clear hb);(try clear hb2);(try clear hk);(try clear hi)))
        go_ret
        exact ⟨by first|rfl|(simp [errW_none, errW_some] <;> rfl)|(simp [*, errW_none, errW_some] <;> rfl), by repeat (first|(with_reducible first|exact HB.out|apply below_alloc|apply pw_below_drewN|apply below_drew1)|exact HB.out)⟩
       ·rw [if_neg c24] at H
        have c24b0 : (t107 == (IntKind.u64.wrap (Int.tdiv a2 t108))) = false := beq_eq_false_iff_ne.mpr c24
        have c24b1 : (t107 != (IntKind.u64.wrap (Int.tdiv a2 t108))) = true := bne_iff_ne.mpr c24
        exact absurd ((Option.some.inj H).trans ht_.out) (by simp)
      ·rw [if_neg c23] at H
       have c23b0 : (t106 == (IntKind.u64.wrap (Int.tdiv a1 t108))) = false := beq_eq_false_iff_ne.mpr c23
       have c23b1 : (t106 != (IntKind.u64.wrap (Int.tdiv a1 t108))) = true := bne_iff_ne.mpr c23
       exact absurd ((Option.some.inj H).trans ht_.out) (by simp)
     ·rw [if_neg c22] at H
      have c22b0 : (t103 == t105) = false := by simpa using c22
      (try (have c22b1 : decide (t103 = t105) = false := by simpa using c22))
      (try (have c22b2 : (t103 == t105) = false := by simpa using c22))
      (try (have c22b3 : ¬ (t103 = t105) := by simpa using c22))
      clear c22
      exact absurd ((Option.some.inj H).trans ht_.out) (by simp)
    ·rw [if_neg c21] at H
     have c21b0 : (t102 == t104) = false := beq_eq_false_iff_ne.mpr c21
     have c21b1 : (t102 != t104) = true := bne_iff_ne.mpr c21
     exact absurd ((Option.some.inj H).trans ht_.out) (by simp)
   ·rw [if_neg c20] at H
    have c20b0 : (t110 == t111) = false := beq_eq_false_iff_ne.mpr c20
    have c20b1 : (t110 != t111) = true := bne_iff_ne.mpr c20
    exact absurd ((Option.some.inj H).trans ht_.out) (by simp)
end Go.Proofs.YteipfcflijdapaaDoor.F
