-- Cut for this claim by a program (wip/prune.py) out of the texts that its bench laid or wrote
import Derived.Test.YtjphoempoinedaaF0
import Derived.Test.YtjphoempoinedaaFAliasA
import Derived.Test.YtjphoempoinedaaFAliasB
import Derived.Test.YtjphoempoinedaaFLaw12alive
import Derived.Test.YtjphoempoinedaaFLaw12columns
import Derived.Test.YtjphoempoinedaaFRef12A
import Derived.Test.YtjphoempoinedaaFRef01A
import Derived.Test.YtjphoempoinedaaFRef09A
import Derived.Test.YtjphoempoinedaaFRef01B
namespace Go.Proofs.Ytjphoempoinedaa.F
open Go.RowKit Go.Proofs.YtjphoempoinedaaW.PrintWords Go.Proofs.YtjphoempoinedaaW.PrintLast Go.Proofs.YtjphoempoinedaaW.PrintMore
attribute [local go_sem] max2_int min2_int max_two min_two max_three min_three max_four min_four
set_option linter.unusedVariables false
set_option linter.unusedSimpArgs false
mutual
def tombolalaw12_AliasBuilds.j0 : Nat → List Int → Bool → Option (Bool)
 | 0, _, _ => none
 | k + 1, x0, x23 => if x23 = true then ((tombolalaw12_alive.f k).bind fun t101 => (some t101)) else ((alias_Build.f k x0).bind fun bt102 => (if (x0.length : Int) > 4096 then (if bt102.2.2 = 5 then (if (bt102.2.1.length : Int) = 0 then ((tombolalaw12_alive.f k).bind fun t108 => (some t108)) else (some false)) else (some false)) else ((tombolaref09_Total.f k x0).bind fun bt109 => ((tombolaref01_Of.f k bt109.1).bind fun t111 => ((tombolaref01_Of.f k (IntKind.u64.wrap ((x0.length : Int)))).bind fun t114 => ((tombolaref01_Mul.f k t111 t114).bind fun t117 => ((tombolaref01_Word.f k t117).bind fun bt120 => (if bt109.2 = true then (tombolalaw12_AliasBuilds.j1 k x0 bt102.2.2 bt109.1 (!bt120.2) bt102.1 bt102.2.1) else (tombolalaw12_AliasBuilds.j1 k x0 bt102.2.2 bt109.1 true bt102.1 bt102.2.1)))))))))
def tombolalaw12_AliasBuilds.j1 : Nat → List Int → Int → Int → Bool → Int → List (S107) → Option (Bool)
 | 0, _, _, _, _, _, _ => none
 | k + 1, x0, x4, x5, x60, x108000, x108001 => if x60 = true then (if x4 = 10 then (if (x108001.length : Int) = 0 then ((tombolalaw12_alive.f k).bind fun t122 => (some t122)) else (some false)) else (some false)) else (if x5 = 0 then (if x4 = 1 then (if (x108001.length : Int) = 0 then ((tombolalaw12_alive.f k).bind fun t123 => (some t123)) else (some false)) else (some false)) else ((tombolalaw12_columns.f k x108000 x108001).bind fun t124 => (if x4 = 0 then (if x108000 = x5 then (if (t124.length : Int) = (x0.length : Int) then ((tombolaref12_Right.f k x5 t124).bind fun t127 => (if t127 = true then ((alias_Fair.f k x108000 x108001 x0).bind fun t128 => (tombolalaw12_AliasBuilds.j2 k x0 x5 t124 (!t128))) else (tombolalaw12_AliasBuilds.j2 k x0 x5 t124 true))) else (tombolalaw12_AliasBuilds.j2 k x0 x5 t124 true)) else (tombolalaw12_AliasBuilds.j2 k x0 x5 t124 true)) else (tombolalaw12_AliasBuilds.j2 k x0 x5 t124 true))))
def tombolalaw12_AliasBuilds.j2 : Nat → List Int → Int → List (S66) → Bool → Option (Bool)
 | 0, _, _, _, _ => none
 | k + 1, x0, x5, x9, x120 => if x120 = true then (some false) else (tombolalaw12_AliasBuilds.l0 k x0 x5 x9 0)
def tombolalaw12_AliasBuilds.l0 : Nat → List Int → Int → List (S66) → Int → Option (Bool)
 | 0, _, _, _, _ => none
 | k + 1, x0, x5, x9, x10 => if x10 < (x0.length : Int) then ((tombolaref12_Count.f k x5 x9 x10).bind fun t130 => (if 0 ≤ x10 then ((tombolaref01_Of.f k (rd x0 x10)).bind fun t134 => ((tombolaref01_Of.f k (IntKind.u64.wrap ((x0.length : Int)))).bind fun t137 => ((tombolaref01_Mul.f k t134 t137).bind fun t140 => ((tombolaref01_Cmp.f k t130 t140).bind fun t143 => (if t143 = 0 then (tombolalaw12_AliasBuilds.l0 k x0 x5 x9 (wrap64 (x10 + 1))) else (some false)))))) else (none))) else ((tombolalaw12_alive.f k).bind fun t129 => (some t129))
end
def tombolalaw12_AliasBuilds.f (k : Nat) (l0 : List Int) : Option (Bool) := if (l0.length : Int) > 300 then (if (l0.length : Int) ≤ 4096 then (tombolalaw12_AliasBuilds.j0 k l0 true) else (tombolalaw12_AliasBuilds.j0 k l0 (decide ((l0.length : Int) > 5000)))) else (tombolalaw12_AliasBuilds.j0 k l0 (decide ((l0.length : Int) > 5000)))
def tombolalaw12_AliasBuilds.T18 : Bool × List (List Nat × List Nat) := (true, [([], []), ([], []), ([], []), ([0, 1, 2], [0, 1, 2]), ([], []), ([], []), ([4, 5], [4, 5]), ([6], [6]), ([7, 3], [7]), ([], []), ([9], [9]), ([10], [10]), ([11, 8], [11]), ([8, 12, 12], [8, 12]), ([3, 13, 13], [3, 13]), ([14], [14])])
def tombolalaw12_AliasBuilds.B18 : List Nat := [0, 0, 0, 7, 0, 0, 48, 112, 255, 0, 512, 1536, 4095, 8191, 16383, 32767]
theorem tombolalaw12_AliasBuilds.tab18 : rtab .any (opsOf Try.f7 18) = tombolalaw12_AliasBuilds.T18 := by kernel_rfl
theorem tombolalaw12_AliasBuilds.bits18 : waitsOk tombolalaw12_AliasBuilds.T18.2 tombolalaw12_AliasBuilds.B18 = true := by kernel_rfl
set_option maxHeartbeats 8000000 in
set_option maxRecDepth 100000 in
theorem tombolalaw12_AliasBuilds.calls (k : Nat) (A0 : Option Addr) (c0 : Nat) (l0 : List Int) (r : Bool) (ht_ : Aside0 (r = true)) (w : World) (hr0 : Kd.C (Kd.int .u64) w A0 l0.length l0) (hc0 : l0.length ≤ c0) (h : tombolalaw12_AliasBuilds.f k l0 = some r) :
  Calls Try.prog 7 #[.slice A0 l0.length c0] w fun e w' => e = .returned (.bool r) ∧ Below w.heap.size w w' := by
 have hu53 := Try.underlying53
 have HR0 := Aside0.mk hr0
 have HC0 := Aside0.mk hc0
 clear hr0 hc0
 have HB := Aside0.mk (Below.refl w.heap.size w)
 have H : (if (l0.length : Int) > 300 then (if (l0.length : Int) ≤ 4096 then (tombolalaw12_AliasBuilds.j0 k l0 true) else (tombolalaw12_AliasBuilds.j0 k l0 (decide ((l0.length : Int) > 5000)))) else (tombolalaw12_AliasBuilds.j0 k l0 (decide ((l0.length : Int) > 5000)))) = some r := h
 clear h
 have HC2 := Aside0.mk H
 clear H
 go_enter Try.func7, Try.ntmps7
 go_upto_region 1 with (fail)
 go_cut [23] (fun v23 wc => ∃ (kq : Nat) (x23_1 : Bool), v23 = .bool x23_1 ∧ Aside0 (tombolalaw12_AliasBuilds.j0 kq l0 x23_1 = some r) ∧ Aside0 (kq ≤ k) ∧ Aside0 (Below w.heap.size w wc))
 case first =>
  have H := HC2.out
  clear HC2
  by_cases c3 : (l0.length : Int) > 300
  ·rw [if_pos c3] at H
   have c3b0 : decide (300 < (l0.length : Int)) = true := decide_eq_true c3
   have c3b1 : decide (300 < l0.length) = true := decide_eq_true (by omega)
   clear c3
   (first|rw [c3b0]|rw [c3b1]|(simp only [i64_w, i32_w];rw [c3b0])|skip)
   by_cases c4 : (l0.length : Int) ≤ 4096
   ·rw [if_pos c4] at H
    have c4b0 : decide ((l0.length : Int) ≤ 4096) = true := decide_eq_true c4
    have c4b1 : decide (l0.length ≤ 4096) = true := decide_eq_true (by omega)
    clear c4
    have H' := Aside0.mk H
    clear H
    go_wp2
    go_meet
    case rel => exact ⟨_, (true), (by first|rfl|(simp;done)|(simp [*];done)), H', ⟨by first|omega|exact Nat.le_refl _⟩, ⟨by repeat (first|(with_reducible first|exact HB.out|apply below_alloc|apply pw_below_drewN|apply below_drew1)|exact HB.out)⟩⟩
   ·rw [if_neg c4] at H
    have c4b0 : decide ((l0.length : Int) ≤ 4096) = false := decide_eq_false c4
    have c4b1 : decide (l0.length ≤ 4096) = false := decide_eq_false (by omega)
    clear c4
    have H' := Aside0.mk H
    clear H
    go_wp2
    go_meet
    case rel => exact ⟨_, (decide ((l0.length : Int) > 5000)), (by first|rfl|(simp;done)|(simp [*];done)), H', ⟨by first|omega|exact Nat.le_refl _⟩, ⟨by repeat (first|(with_reducible first|exact HB.out|apply below_alloc|apply pw_below_drewN|apply below_drew1)|exact HB.out)⟩⟩
  ·rw [if_neg c3] at H
   have c3b0 : decide (300 < (l0.length : Int)) = false := decide_eq_false c3
   have c3b1 : decide (300 < l0.length) = false := decide_eq_false (by omega)
   clear c3
   (first|rw [c3b0]|rw [c3b1]|(simp only [i64_w, i32_w];rw [c3b0])|skip)
   have H' := Aside0.mk H
   clear H
   go_wp2
   go_meet
   case rel => exact ⟨_, (decide ((l0.length : Int) > 5000)), (by first|rfl|(simp;done)|(simp [*];done)), H', ⟨by first|omega|exact Nat.le_refl _⟩, ⟨by repeat (first|(with_reducible first|exact HB.out|apply below_alloc|apply pw_below_drewN|apply below_drew1)|exact HB.out)⟩⟩
 case rest => as_aux_lemma =>
  clear HC2
  try clear p2
  try clear c3
  try clear c3b0
  try clear c3b1
  try clear c4
  try clear c4b0
  try clear c4b1
  obtain ⟨kq, x23_1, rfl, HA, HJ1, HB⟩ := hcut
  cases kq with
  | zero => exact absurd HA.out (by simp [tombolalaw12_AliasBuilds.j0])
  | succ kj1 =>
   have H := HA.out
   clear HA
   simp only [tombolalaw12_AliasBuilds.j0] at H
   by_cases c5 : x23_1 = true
   ·subst c5
    have H1 : ((tombolalaw12_alive.f kj1).bind fun t101 => (some t101)) = some r := by rw [if_pos rfl] at H;exact H
    clear H
    have H := H1
    clear H1
    replace H := Option.bind_eq_some_iff.mp H
    obtain ⟨t101, A60, H⟩ := H
    replace H : (some t101) = some r := H
    have A6 := Aside0.mk A60
    clear A60
    obtain rfl := Option.some.inj H
    go_wp2_with (first|((with_reducible refine gate_callee (f := 26) rfl ?_);refine goesL_ (some 24) rfl rfl Try.func26 (by kernel_rfl) rfl #[] rfl (by (try simp only [List.map_toArray, List.map_cons, List.map_nil]);first|done|rfl|(simp only [List.length_drop, List.length_take];rfl)) ?_;(with_reducible refine (tombolalaw12_alive.calls kj1  t101 _ A6.out).mono ?_);rintro e w7 ⟨rfl, hb⟩;refine ⟨_, rfl, ?_⟩;have n0_ := Aside0.mk (below_step (by repeat (first|(with_reducible first|exact HB.out|apply below_alloc|apply pw_below_drewN|apply below_drew1)|exact HB.out)) hb);clear HB;have HB := n0_;clear n0_;(try clear hb);(try clear hb2);(try clear hk);(try clear hi)))
    go_ret
    exact ⟨by first|rfl|(simp [errW_none, errW_some] <;> rfl)|(simp [*, errW_none, errW_some] <;> rfl), by repeat (first|(with_reducible first|exact HB.out|apply below_alloc|apply pw_below_drewN|apply below_drew1)|exact HB.out)⟩
   ·replace c5 := Bool.eq_false_iff.mpr c5
    subst c5
    have H1 : ((alias_Build.f kj1 l0).bind fun bt102 => (if (l0.length : Int) > 4096 then (if bt102.2.2 = 5 then (if (bt102.2.1.length : Int) = 0 then ((tombolalaw12_alive.f kj1).bind fun t108 => (some t108)) else (some false)) else (some false)) else ((tombolaref09_Total.f kj1 l0).bind fun bt109 => ((tombolaref01_Of.f kj1 bt109.1).bind fun t111 => ((tombolaref01_Of.f kj1 (IntKind.u64.wrap ((l0.length : Int)))).bind fun t114 => ((tombolaref01_Mul.f kj1 t111 t114).bind fun t117 => ((tombolaref01_Word.f kj1 t117).bind fun bt120 => (if bt109.2 = true then (tombolalaw12_AliasBuilds.j1 kj1 l0 bt102.2.2 bt109.1 (!bt120.2) bt102.1 bt102.2.1) else (tombolalaw12_AliasBuilds.j1 kj1 l0 bt102.2.2 bt109.1 true bt102.1 bt102.2.1))))))))) = some r := by rw [if_neg (show ¬ (false = true) by decide)] at H;exact H
    clear H
    have H := H1
    clear H1
    replace H := Option.bind_eq_some_iff.mp H
    obtain ⟨⟨t102, t103, t106⟩, A80, H⟩ := H
    replace H : (if (l0.length : Int) > 4096 then (if t106 = 5 then (if (t103.length : Int) = 0 then ((tombolalaw12_alive.f kj1).bind fun t108 => (some t108)) else (some false)) else (some false)) else ((tombolaref09_Total.f kj1 l0).bind fun bt109 => ((tombolaref01_Of.f kj1 bt109.1).bind fun t111 => ((tombolaref01_Of.f kj1 (IntKind.u64.wrap ((l0.length : Int)))).bind fun t114 => ((tombolaref01_Mul.f kj1 t111 t114).bind fun t117 => ((tombolaref01_Word.f kj1 t117).bind fun bt120 => (if bt109.2 = true then (tombolalaw12_AliasBuilds.j1 kj1 l0 t106 bt109.1 (!bt120.2) t102 t103) else (tombolalaw12_AliasBuilds.j1 kj1 l0 t106 bt109.1 true t102 t103)))))))) = some r := H
    have A8 := Aside0.mk A80
    clear A80
    by_cases c9 : (l0.length : Int) > 4096
    ·rw [if_pos c9] at H
     have c9b0 : decide (4096 < (l0.length : Int)) = true := decide_eq_true c9
     have c9b1 : decide (4096 < l0.length) = true := decide_eq_true (by omega)
     clear c9
     by_cases c10 : t106 = 5
     ·rw [if_pos c10] at H
      have c10b0 : (t106 == 5) = true := beq_iff_eq.mpr c10
      have c10b1 : (t106 != 5) = false := bne_eq_false_iff_eq.mpr c10
      clear c10
      by_cases c11 : (t103.length : Int) = 0
      ·rw [if_pos c11] at H
       have c11b0 : ((t103.length : Int) == 0) = true := beq_iff_eq.mpr c11
       have c11b1 : ((t103.length : Int) != 0) = false := bne_eq_false_iff_eq.mpr c11
       clear c11
       replace H := Option.bind_eq_some_iff.mp H
       obtain ⟨t108, A120, H⟩ := H
       replace H : (some t108) = some r := H
       have A12 := Aside0.mk A120
       clear A120
       obtain rfl := Option.some.inj H
       go_wp2_with (first|((with_reducible refine gate_callee (f := 39) rfl ?_);refine goesL_ (some 27) rfl rfl Try.func39 (by kernel_rfl) rfl #[.slice A0 l0.length c0] rfl (by (try simp only [List.map_toArray, List.map_cons, List.map_nil]);first|done|rfl|(simp only [List.length_drop, List.length_take];rfl)) ?_;(with_reducible refine (alias_Build.calls kj1 _ _ l0 t102 t103 t106 _ ?side1 ?side2 A8.out).mono ?_);(case side1 => repeat (first|exact (Kd.C_below HR0.out HB.out)|(with_reducible refine Kd.C_alloc ?_ _)|(with_reducible refine Kd.C_drewN ?_ _)|(with_reducible refine Kd.C_drew ?_)));(case side2 => exact HC0.out);rintro e w13 ⟨v104, rfl, ho0, hb⟩;refine ⟨_, rfl, ?_⟩;have n0_ := Aside0.mk (Kd.R_lower ho0 (below_size (by repeat (first|(with_reducible first|exact HB.out|apply below_alloc|apply pw_below_drewN|apply below_drew1)|exact HB.out))));have n1_ := Aside0.mk (below_step (by repeat (first|(with_reducible first|exact HB.out|apply below_alloc|apply pw_below_drewN|apply below_drew1)|exact HB.out)) hb);clear HB;have HO105 := n0_;have HB := n1_;clear n0_ n1_;(try clear hb);(try clear hb2);(try clear hk);(try clear hi);(try clear ho0))|((with_reducible refine gate_dst (N := 3) rfl ?_);(try (refine gate_guard (by rfl) ?_;dsimp only));refine box_event ?hg (N := 3) ?hd (cs := #[.int .u64 0, .slice none 0 0]) (t := 53) ?hr ?_;(case hd => rfl);(case hg => rfl);(case hr => first|(go_simp;done)|(go_simp;rfl));intro gb107 hg w14 hbox hb;have n0_ := Aside0.mk (Kd.R_below (by (with_reducible repeat (first|apply Kd.R_alloc|apply Kd.R_drewN|apply Kd.R_drew));exact HO105.out) hb);have n1_ := Aside0.mk (below_step (by repeat (first|(with_reducible first|exact HB.out|apply below_alloc|apply pw_below_drewN|apply below_drew1)|exact HB.out)) hb);have n2_ := Aside0.mk (hbox);have n3_ := Aside0.mk ((by rw [hg];exact (below_size (by repeat (first|(with_reducible first|exact HB.out|apply below_alloc|apply pw_below_drewN|apply below_drew1)|exact HB.out))) : w.heap.size ≤ gb107));have n4_ := Aside0.mk ((by rw [hg];exact (below_size (by repeat (first|(with_reducible first|exact HB.out|apply below_alloc|apply pw_below_drewN|apply below_drew1)|exact HB.out))) : w.heap.size ≤ gb107));clear HO105;clear HB;have HO105 := n0_;have HB := n1_;have BK107 := n2_;have GW107 := n3_;have GE107 := n4_;clear n0_ n1_ n2_ n3_ n4_;clear hb hbox hg;have hcz15_0 : w14.cell? ⟨gb107, 0, none⟩ = some (.int .u64 0) := (blk_cell BK107.out 0).trans rfl;have hcz15_1 : w14.cell? ⟨gb107, 1, none⟩ = some (.slice none 0 0) := (blk_cell BK107.out 1).trans rfl;have hfz15_0 := blk_frozen BK107.out 0;have hfz15_1 := blk_frozen BK107.out 1;obtain ⟨Ao16, co16, eo16⟩ := Kd.R_slice HO105.out;subst eo16)|(go_at_call 26;(with_reducible refine (tombolalaw12_alive.calls kj1  t108 _ A12.out).mono ?_);rintro e w17 ⟨rfl, hb⟩;have n0_ := Aside0.mk (Kd.R_below (by (with_reducible repeat (first|apply Kd.R_alloc|apply Kd.R_drewN|apply Kd.R_drew));exact (Kd.R_mono (Kd.R_far (p := ⟨gb107, 1, none⟩) (Kd.R_far (p := ⟨gb107, 0, none⟩) (Kd.R_types HO105.out BK107.out (by decide)) (fun _ hk => hk.2) (.int .u64 t102)) (fun _ hk => hk.2) (.slice Ao16 t103.length co16)) (fun _ h_ => h_.1))) hb);have n1_ := Aside0.mk (blk_below (g := gb107) (o := .cells #[.int .u64 t102, .slice Ao16 t103.length co16] 53 (0, 0)) (by (with_reducible repeat (first|refine blk_drewN ?_ _|refine blk_drew ?_|refine blk_alloc ?_ _));refine blk_put (cs := #[.int .u64 t102, .slice none 0 0]) ?_ 1 _ rfl;(with_reducible repeat (first|refine blk_drewN ?_ _|refine blk_drew ?_|refine blk_alloc ?_ _));refine blk_put (cs := #[.int .u64 0, .slice none 0 0]) ?_ 0 _ rfl;(with_reducible repeat (first|refine blk_drewN ?_ _|refine blk_drew ?_|refine blk_alloc ?_ _));exact BK107.out) hb);have n2_ := Aside0.mk (below_step (by repeat (first|(with_reducible first|exact HB.out|apply below_alloc|apply pw_below_drewN|apply below_drew1|refine below_set ?_ GE107.out)|exact HB.out)) hb);clear HO105;clear BK107;clear HB;have HO105 := n0_;have BK107 := n1_;have HB := n2_;clear n0_ n1_ n2_;(try clear hb);(try clear hb2);(try clear hk);(try clear hi)))
       go_ret
       exact ⟨by first|rfl|(simp [errW_none, errW_some] <;> rfl)|(simp [*, errW_none, errW_some] <;> rfl), by repeat (first|(with_reducible first|exact HB.out|apply below_alloc|apply pw_below_drewN|apply below_drew1|refine below_set ?_ GE107.out)|exact HB.out)⟩
      ·rw [if_neg c11] at H
       have c11b0 : ((t103.length : Int) == 0) = false := beq_eq_false_iff_ne.mpr c11
       have c11b1 : ((t103.length : Int) != 0) = true := bne_iff_ne.mpr c11
       have c11b2 : ¬ (t103 = []) := fun h_ => c11 (by rw [h_];rfl)
       exact absurd ((Option.some.inj H).trans ht_.out) (by simp)
     ·rw [if_neg c10] at H
      have c10b0 : (t106 == 5) = false := beq_eq_false_iff_ne.mpr c10
      have c10b1 : (t106 != 5) = true := bne_iff_ne.mpr c10
      exact absurd ((Option.some.inj H).trans ht_.out) (by simp)
    ·rw [if_neg c9] at H
     have c9b0 : decide (4096 < (l0.length : Int)) = false := decide_eq_false c9
     have c9b1 : decide (4096 < l0.length) = false := decide_eq_false (by omega)
     clear c9
     replace H := Option.bind_eq_some_iff.mp H
     obtain ⟨⟨t109, t110⟩, A180, H⟩ := H
     replace H : ((tombolaref01_Of.f kj1 t109).bind fun t111 => ((tombolaref01_Of.f kj1 (IntKind.u64.wrap ((l0.length : Int)))).bind fun t114 => ((tombolaref01_Mul.f kj1 t111 t114).bind fun t117 => ((tombolaref01_Word.f kj1 t117).bind fun bt120 => (if t110 = true then (tombolalaw12_AliasBuilds.j1 kj1 l0 t106 t109 (!bt120.2) t102 t103) else (tombolalaw12_AliasBuilds.j1 kj1 l0 t106 t109 true t102 t103)))))) = some r := H
     have A18 := Aside0.mk A180
     clear A180
     replace H := Option.bind_eq_some_iff.mp H
     obtain ⟨t111, A190, H⟩ := H
     replace H : ((tombolaref01_Of.f kj1 (IntKind.u64.wrap ((l0.length : Int)))).bind fun t114 => ((tombolaref01_Mul.f kj1 t111 t114).bind fun t117 => ((tombolaref01_Word.f kj1 t117).bind fun bt120 => (if t110 = true then (tombolalaw12_AliasBuilds.j1 kj1 l0 t106 t109 (!bt120.2) t102 t103) else (tombolalaw12_AliasBuilds.j1 kj1 l0 t106 t109 true t102 t103))))) = some r := H
     have A19 := Aside0.mk A190
     clear A190
     replace H := Option.bind_eq_some_iff.mp H
     obtain ⟨t114, A200, H⟩ := H
     replace H : ((tombolaref01_Mul.f kj1 t111 t114).bind fun t117 => ((tombolaref01_Word.f kj1 t117).bind fun bt120 => (if t110 = true then (tombolalaw12_AliasBuilds.j1 kj1 l0 t106 t109 (!bt120.2) t102 t103) else (tombolalaw12_AliasBuilds.j1 kj1 l0 t106 t109 true t102 t103)))) = some r := H
     have A20 := Aside0.mk A200
     clear A200
     replace H := Option.bind_eq_some_iff.mp H
     obtain ⟨t117, A210, H⟩ := H
     replace H : ((tombolaref01_Word.f kj1 t117).bind fun bt120 => (if t110 = true then (tombolalaw12_AliasBuilds.j1 kj1 l0 t106 t109 (!bt120.2) t102 t103) else (tombolalaw12_AliasBuilds.j1 kj1 l0 t106 t109 true t102 t103))) = some r := H
     have A21 := Aside0.mk A210
     clear A210
     replace H := Option.bind_eq_some_iff.mp H
     obtain ⟨⟨t120, t121⟩, A220, H⟩ := H
     replace H : (if t110 = true then (tombolalaw12_AliasBuilds.j1 kj1 l0 t106 t109 (!t121) t102 t103) else (tombolalaw12_AliasBuilds.j1 kj1 l0 t106 t109 true t102 t103)) = some r := H
     have A22 := Aside0.mk A220
     clear A220
     have HC23 := Aside0.mk H
     clear H
     go_upto_region 8 with (first|((with_reducible refine gate_callee (f := 39) rfl ?_);refine goesL_ (some 27) rfl rfl Try.func39 (by kernel_rfl) rfl #[.slice A0 l0.length c0] rfl (by (try simp only [List.map_toArray, List.map_cons, List.map_nil]);first|done|rfl|(simp only [List.length_drop, List.length_take];rfl)) ?_;(with_reducible refine (alias_Build.calls kj1 _ _ l0 t102 t103 t106 _ ?side1 ?side2 A8.out).mono ?_);(case side1 => repeat (first|exact (Kd.C_below HR0.out HB.out)|(with_reducible refine Kd.C_alloc ?_ _)|(with_reducible refine Kd.C_drewN ?_ _)|(with_reducible refine Kd.C_drew ?_)));(case side2 => exact HC0.out);rintro e w24 ⟨v104, rfl, ho0, hb⟩;refine ⟨_, rfl, ?_⟩;have n0_ := Aside0.mk (Kd.R_lower ho0 (below_size (by repeat (first|(with_reducible first|exact HB.out|apply below_alloc|apply pw_below_drewN|apply below_drew1)|exact HB.out))));have n1_ := Aside0.mk (below_step (by repeat (first|(with_reducible first|exact HB.out|apply below_alloc|apply pw_below_drewN|apply below_drew1)|exact HB.out)) hb);clear HB;have HO105 := n0_;have HB := n1_;clear n0_ n1_;(try clear hb);(try clear hb2);(try clear hk);(try clear hi);(try clear ho0))|((with_reducible refine gate_dst (N := 3) rfl ?_);(try (refine gate_guard (by rfl) ?_;dsimp only));refine box_event ?hg (N := 3) ?hd (cs := #[.int .u64 0, .slice none 0 0]) (t := 53) ?hr ?_;(case hd => rfl);(case hg => rfl);(case hr => first|(go_simp;done)|(go_simp;rfl));intro gb107 hg w25 hbox hb;have n0_ := Aside0.mk (Kd.R_below (by (with_reducible repeat (first|apply Kd.R_alloc|apply Kd.R_drewN|apply Kd.R_drew));exact HO105.out) hb);have n1_ := Aside0.mk (below_step (by repeat (first|(with_reducible first|exact HB.out|apply below_alloc|apply pw_below_drewN|apply below_drew1)|exact HB.out)) hb);have n2_ := Aside0.mk (hbox);have n3_ := Aside0.mk ((by rw [hg];exact (below_size (by repeat (first|(with_reducible first|exact HB.out|apply below_alloc|apply pw_below_drewN|apply below_drew1)|exact HB.out))) : w.heap.size ≤ gb107));have n4_ := Aside0.mk ((by rw [hg];exact (below_size (by repeat (first|(with_reducible first|exact HB.out|apply below_alloc|apply pw_below_drewN|apply below_drew1)|exact HB.out))) : w.heap.size ≤ gb107));clear HO105;clear HB;have HO105 := n0_;have HB := n1_;have BK107 := n2_;have GW107 := n3_;have GE107 := n4_;clear n0_ n1_ n2_ n3_ n4_;clear hb hbox hg;have hcz26_0 : w25.cell? ⟨gb107, 0, none⟩ = some (.int .u64 0) := (blk_cell BK107.out 0).trans rfl;have hcz26_1 : w25.cell? ⟨gb107, 1, none⟩ = some (.slice none 0 0) := (blk_cell BK107.out 1).trans rfl;have hfz26_0 := blk_frozen BK107.out 0;have hfz26_1 := blk_frozen BK107.out 1;obtain ⟨Ao27, co27, eo27⟩ := Kd.R_slice HO105.out;subst eo27)|((with_reducible refine gate_callee (f := 37) rfl ?_);refine goesL_ (some 46) rfl rfl Try.func37 (by kernel_rfl) rfl #[.slice A0 l0.length c0] rfl (by (try simp only [List.map_toArray, List.map_cons, List.map_nil]);first|done|rfl|(simp only [List.length_drop, List.length_take];rfl)) ?_;(with_reducible refine (tombolaref09_Total.calls kj1 _ _ l0 t109 t110 _ ?side1 ?side2 A18.out).mono ?_);(case side1 => exact Kd.C_below HR0.out (by repeat (first|(with_reducible first|exact HB.out|apply below_alloc|apply pw_below_drewN|apply below_drew1|refine below_set ?_ GE107.out)|exact HB.out)));(case side2 => exact HC0.out);rintro e w28 ⟨rfl, hb⟩;refine ⟨_, rfl, ?_⟩;have n0_ := Aside0.mk (Kd.R_below (by (with_reducible repeat (first|apply Kd.R_alloc|apply Kd.R_drewN|apply Kd.R_drew));exact (Kd.R_mono (Kd.R_far (p := ⟨gb107, 1, none⟩) (Kd.R_far (p := ⟨gb107, 0, none⟩) (Kd.R_types HO105.out BK107.out (by decide)) (fun _ hk => hk.2) (.int .u64 t102)) (fun _ hk => hk.2) (.slice Ao27 t103.length co27)) (fun _ h_ => h_.1))) hb);have n1_ := Aside0.mk (blk_below (g := gb107) (o := .cells #[.int .u64 t102, .slice Ao27 t103.length co27] 53 (0, 0)) (by (with_reducible repeat (first|refine blk_drewN ?_ _|refine blk_drew ?_|refine blk_alloc ?_ _));refine blk_put (cs := #[.int .u64 t102, .slice none 0 0]) ?_ 1 _ rfl;(with_reducible repeat (first|refine blk_drewN ?_ _|refine blk_drew ?_|refine blk_alloc ?_ _));refine blk_put (cs := #[.int .u64 0, .slice none 0 0]) ?_ 0 _ rfl;(with_reducible repeat (first|refine blk_drewN ?_ _|refine blk_drew ?_|refine blk_alloc ?_ _));exact BK107.out) hb);have n2_ := Aside0.mk (below_step (by repeat (first|(with_reducible first|exact HB.out|apply below_alloc|apply pw_below_drewN|apply below_drew1|refine below_set ?_ GE107.out)|exact HB.out)) hb);clear HO105;clear BK107;clear HB;have HO105 := n0_;have BK107 := n1_;have HB := n2_;clear n0_ n1_ n2_;(try clear hb);(try clear hb2);(try clear hk);(try clear hi))|((with_reducible refine gate_callee (f := 35) rfl ?_);refine goesL_ (some 51) rfl rfl Try.func35 (by kernel_rfl) rfl #[.int .u64 t109] rfl (by (try simp only [List.map_toArray, List.map_cons, List.map_nil]);first|done|rfl|(simp only [List.length_drop, List.length_take];rfl)) ?_;(with_reducible refine (tombolaref01_Of.calls kj1 t109 t111 _ A19.out).mono ?_);rintro e w29 ⟨v112, rfl, ho0, hb⟩;refine ⟨_, rfl, ?_⟩;have n0_ := Aside0.mk (Kd.R_below (by (with_reducible repeat (first|apply Kd.R_alloc|apply Kd.R_drewN|apply Kd.R_drew));exact HO105.out) hb);have n1_ := Aside0.mk (Kd.R_lower ho0 (below_size (by repeat (first|(with_reducible first|exact HB.out|apply below_alloc|apply pw_below_drewN|apply below_drew1|refine below_set ?_ GE107.out)|exact HB.out))));have n2_ := Aside0.mk (blk_below (g := gb107) (o := .cells #[.int .u64 t102, .slice Ao27 t103.length co27] 53 (0, 0)) (by (with_reducible repeat (first|refine blk_drewN ?_ _|refine blk_drew ?_|refine blk_alloc ?_ _));exact BK107.out) hb);have n3_ := Aside0.mk (below_step (by repeat (first|(with_reducible first|exact HB.out|apply below_alloc|apply pw_below_drewN|apply below_drew1|refine below_set ?_ GE107.out)|exact HB.out)) hb);clear HO105;clear BK107;clear HB;have HO105 := n0_;have HO113 := n1_;have BK107 := n2_;have HB := n3_;clear n0_ n1_ n2_ n3_;(try clear hb);(try clear hb2);(try clear hk);(try clear hi);(try clear ho0))|((with_reducible refine gate_callee (f := 35) rfl ?_);refine goesL_ (some 55) rfl rfl Try.func35 (by kernel_rfl) rfl #[.int .u64 (IntKind.u64.wrap ((l0.length : Int)))] rfl (by (try simp only [List.map_toArray, List.map_cons, List.map_nil]);first|done|rfl|(simp only [List.length_drop, List.length_take];rfl)) ?_;(with_reducible refine (tombolaref01_Of.calls kj1 (IntKind.u64.wrap ((l0.length : Int))) t114 _ A20.out).mono ?_);rintro e w30 ⟨v115, rfl, ho0, hb⟩;refine ⟨_, rfl, ?_⟩;have n0_ := Aside0.mk (Kd.R_below (by (with_reducible repeat (first|apply Kd.R_alloc|apply Kd.R_drewN|apply Kd.R_drew));exact HO105.out) hb);have n1_ := Aside0.mk (Kd.R_elder' (by (with_reducible repeat (first|apply Kd.R_alloc|apply Kd.R_drewN|apply Kd.R_drew));exact HO113.out) (Kd.R_base ho0) hb);have n2_ := Aside0.mk (Kd.R_lower (Kd.R_new' ho0 (Kd.R_lt (by (with_reducible repeat (first|apply Kd.R_alloc|apply Kd.R_drewN|apply Kd.R_drew));exact HO113.out))) (below_size (by repeat (first|(with_reducible first|exact HB.out|apply below_alloc|apply pw_below_drewN|apply below_drew1|refine below_set ?_ GE107.out)|exact HB.out))));have n3_ := Aside0.mk (blk_below (g := gb107) (o := .cells #[.int .u64 t102, .slice Ao27 t103.length co27] 53 (0, 0)) (by (with_reducible repeat (first|refine blk_drewN ?_ _|refine blk_drew ?_|refine blk_alloc ?_ _));exact BK107.out) hb);have n4_ := Aside0.mk (below_step (by repeat (first|(with_reducible first|exact HB.out|apply below_alloc|apply pw_below_drewN|apply below_drew1|refine below_set ?_ GE107.out)|exact HB.out)) hb);clear HO105;clear HO113;clear BK107;clear HB;have HO105 := n0_;have HO113 := n1_;have HO116 := n2_;have BK107 := n3_;have HB := n4_;clear n0_ n1_ n2_ n3_ n4_;(try clear hb);(try clear hb2);(try clear hk);(try clear hi);(try clear ho0);obtain ⟨Ao31, co31, eo31⟩ := Kd.R_slice HO113.out;subst eo31;obtain ⟨Ao32, co32, eo32⟩ := Kd.R_slice HO116.out;subst eo32)|((with_reducible refine gate_callee (f := 34) rfl ?_);refine goesL_ (some 56) rfl rfl Try.func34 (by kernel_rfl) rfl #[.agg #[.slice Ao31 t111.length co31], .agg #[.slice Ao32 t114.length co32]] rfl (by (try simp only [List.map_toArray, List.map_cons, List.map_nil]);first|done|rfl|(simp only [List.length_drop, List.length_take];rfl)) ?_;(with_reducible refine (tombolaref01_Mul.calls kj1 _ _ t111 _ _ t114 t117 _ ?side1 ?side2 ?side3 ?side4 A21.out).mono ?_);(case side1 => repeat (first|exact (Kd.R_reads' HO113.out).2.2|(with_reducible refine Kd.C_alloc ?_ _)|(with_reducible refine Kd.C_drewN ?_ _)|(with_reducible refine Kd.C_drew ?_)));(case side2 => exact (Kd.R_reads' HO113.out).2.1);(case side3 => repeat (first|exact (Kd.R_reads' HO116.out).2.2|(with_reducible refine Kd.C_alloc ?_ _)|(with_reducible refine Kd.C_drewN ?_ _)|(with_reducible refine Kd.C_drew ?_)));(case side4 => exact (Kd.R_reads' HO116.out).2.1);rintro e w33 ⟨v118, rfl, ho0, hb⟩;refine ⟨_, rfl, ?_⟩;have n0_ := Aside0.mk (Kd.R_below (by (with_reducible repeat (first|apply Kd.R_alloc|apply Kd.R_drewN|apply Kd.R_drew));exact HO105.out) hb);have n1_ := Aside0.mk (Kd.R_elder' (by (with_reducible repeat (first|apply Kd.R_alloc|apply Kd.R_drewN|apply Kd.R_drew));exact HO113.out) (Kd.R_base ho0) hb);have n2_ := Aside0.mk (Kd.R_elder' (by (with_reducible repeat (first|apply Kd.R_alloc|apply Kd.R_drewN|apply Kd.R_drew));exact HO116.out) (Kd.R_base ho0) hb);have n3_ := Aside0.mk (Kd.R_lower (Kd.R_new' (Kd.R_new' ho0 (Kd.R_lt (by (with_reducible repeat (first|apply Kd.R_alloc|apply Kd.R_drewN|apply Kd.R_drew));exact HO113.out))) (Kd.R_lt (by (with_reducible repeat (first|apply Kd.R_alloc|apply Kd.R_drewN|apply Kd.R_drew));exact HO116.out))) (below_size (by repeat (first|(with_reducible first|exact HB.out|apply below_alloc|apply pw_below_drewN|apply below_drew1|refine below_set ?_ GE107.out)|exact HB.out))));have n4_ := Aside0.mk (blk_below (g := gb107) (o := .cells #[.int .u64 t102, .slice Ao27 t103.length co27] 53 (0, 0)) (by (with_reducible repeat (first|refine blk_drewN ?_ _|refine blk_drew ?_|refine blk_alloc ?_ _));exact BK107.out) hb);have n5_ := Aside0.mk (below_step (by repeat (first|(with_reducible first|exact HB.out|apply below_alloc|apply pw_below_drewN|apply below_drew1|refine below_set ?_ GE107.out)|exact HB.out)) hb);clear HO105;clear HO113;clear HO116;clear BK107;clear HB;have HO105 := n0_;have HO113 := n1_;have HO116 := n2_;have HO119 := n3_;have BK107 := n4_;have HB := n5_;clear n0_ n1_ n2_ n3_ n4_ n5_;(try clear hb);(try clear hb2);(try clear hk);(try clear hi);(try clear ho0);obtain ⟨Ao34, co34, eo34⟩ := Kd.R_slice HO119.out;subst eo34)|((with_reducible refine gate_callee (f := 33) rfl ?_);refine goesL_ (some 57) rfl rfl Try.func33 (by kernel_rfl) rfl #[.agg #[.slice Ao34 t117.length co34]] rfl (by (try simp only [List.map_toArray, List.map_cons, List.map_nil]);first|done|rfl|(simp only [List.length_drop, List.length_take];rfl)) ?_;(with_reducible refine (tombolaref01_Word.calls kj1 _ _ t117 t120 t121 _ ?side1 ?side2 A22.out).mono ?_);(case side1 => repeat (first|exact (Kd.R_reads' HO119.out).2.2|(with_reducible refine Kd.C_alloc ?_ _)|(with_reducible refine Kd.C_drewN ?_ _)|(with_reducible refine Kd.C_drew ?_)));(case side2 => exact (Kd.R_reads' HO119.out).2.1);rintro e w35 ⟨rfl, hb⟩;refine ⟨_, rfl, ?_⟩;have n0_ := Aside0.mk (Kd.R_below (by (with_reducible repeat (first|apply Kd.R_alloc|apply Kd.R_drewN|apply Kd.R_drew));exact HO105.out) hb);have n1_ := Aside0.mk (Kd.R_below (by (with_reducible repeat (first|apply Kd.R_alloc|apply Kd.R_drewN|apply Kd.R_drew));exact HO113.out) hb);have n2_ := Aside0.mk (Kd.R_below (by (with_reducible repeat (first|apply Kd.R_alloc|apply Kd.R_drewN|apply Kd.R_drew));exact HO116.out) hb);have n3_ := Aside0.mk (Kd.R_below (by (with_reducible repeat (first|apply Kd.R_alloc|apply Kd.R_drewN|apply Kd.R_drew));exact HO119.out) hb);have n4_ := Aside0.mk (blk_below (g := gb107) (o := .cells #[.int .u64 t102, .slice Ao27 t103.length co27] 53 (0, 0)) (by (with_reducible repeat (first|refine blk_drewN ?_ _|refine blk_drew ?_|refine blk_alloc ?_ _));exact BK107.out) hb);have n5_ := Aside0.mk (below_step (by repeat (first|(with_reducible first|exact HB.out|apply below_alloc|apply pw_below_drewN|apply below_drew1|refine below_set ?_ GE107.out)|exact HB.out)) hb);clear HO105;clear HO113;clear HO116;clear HO119;clear BK107;clear HB;have HO105 := n0_;have HO113 := n1_;have HO116 := n2_;have HO119 := n3_;have BK107 := n4_;have HB := n5_;clear n0_ n1_ n2_ n3_ n4_ n5_;(try clear hb);(try clear hb2);(try clear hk);(try clear hi)))
     (try simp only [Act.put, List.setIfInBounds_toArray, List.set_cons_zero, List.set_cons_succ])
     go_cut [60] (fun v60 wc => ∃ (kq : Nat) (x60_22 : Bool), v60 = .bool x60_22 ∧ Aside0 (tombolalaw12_AliasBuilds.j1 kq l0 t106 t109 x60_22 t102 t103 = some r) ∧ Aside0 (kq ≤ kj1) ∧ Aside0 (Kd.R k107 107 wc w.heap.size (fun _ => True) (.slice Ao27 t103.length co27) t103) ∧ Aside0 (wc.heap[gb107]? = some (.cells #[.int .u64 t102, (.slice Ao27 t103.length co27)] 53 (0, 0))) ∧ Aside0 (Below w.heap.size w wc))
     case first =>
      have H := HC23.out
      clear HC23
      by_cases c36 : t110 = true
      ·subst c36
       have H1 : (tombolalaw12_AliasBuilds.j1 kj1 l0 t106 t109 (!t121) t102 t103) = some r := by rw [if_pos rfl] at H;exact H
       clear H
       have H := H1
       clear H1
       have H' := Aside0.mk H
       clear H
       go_wp2
       go_meet
       case rel => exact ⟨_, (!t121), (by first|rfl|(simp;done)|(simp [*];done)), H', ⟨by have := HJ1.out;first|omega|exact Nat.le_refl _⟩, ⟨by (with_reducible repeat (first|apply Kd.R_alloc|apply Kd.R_drewN|apply Kd.R_drew));exact HO105.out⟩, ⟨by (with_reducible repeat (first|refine blk_drewN ?_ _|refine blk_drew ?_|refine blk_alloc ?_ _));exact BK107.out⟩, ⟨by repeat (first|(with_reducible first|exact HB.out|apply below_alloc|apply pw_below_drewN|apply below_drew1|refine below_set ?_ GE107.out)|exact HB.out)⟩⟩
      ·replace c36 := Bool.eq_false_iff.mpr c36
       subst c36
       have H1 : (tombolalaw12_AliasBuilds.j1 kj1 l0 t106 t109 true t102 t103) = some r := by rw [if_neg (show ¬ (false = true) by decide)] at H;exact H
       clear H
       have H := H1
       clear H1
       have H' := Aside0.mk H
       clear H
       go_wp2
       go_meet
       case rel => exact ⟨_, (true), (by first|rfl|(simp;done)|(simp [*];done)), H', ⟨by have := HJ1.out;first|omega|exact Nat.le_refl _⟩, ⟨by (with_reducible repeat (first|apply Kd.R_alloc|apply Kd.R_drewN|apply Kd.R_drew));exact HO105.out⟩, ⟨by (with_reducible repeat (first|refine blk_drewN ?_ _|refine blk_drew ?_|refine blk_alloc ?_ _));exact BK107.out⟩, ⟨by repeat (first|(with_reducible first|exact HB.out|apply below_alloc|apply pw_below_drewN|apply below_drew1|refine below_set ?_ GE107.out)|exact HB.out)⟩⟩
     case rest => as_aux_lemma =>
      clear HC23
      try clear c1
      try clear c2
      try clear p2
      try clear c3
      try clear c3b0
      try clear c3b1
      try clear c4
      try clear c4b0
      try clear c4b1
      try clear c5
      try clear c7
      try clear c9
      try clear c9b0
      try clear c9b1
      try clear c10
      try clear c10b0
      try clear c10b1
      try clear c11
      try clear c11b0
      try clear c11b1
      try clear c11b2
      try clear c26
      try clear c33
      try clear c34
      try clear c35
      try clear c36
      try clear hcz15_0
      try clear hcz15_1
      try clear hcz26_0
      try clear hcz26_1
      try clear hfz15_0
      try clear hfz15_1
      try clear hfz26_0
      try clear hfz26_1
      try clear p2
      obtain ⟨kq, x60_22, rfl, HA, HJ22, HO_108001, BK107, HB⟩ := hcut
      cases kq with
      | zero => exact absurd HA.out (by simp [tombolalaw12_AliasBuilds.j1])
      | succ kj22 =>
       have H := HA.out
       clear HA
       simp only [tombolalaw12_AliasBuilds.j1] at H
       by_cases c37 : x60_22 = true
       ·subst c37
        have H1 : (if t106 = 10 then (if (t103.length : Int) = 0 then ((tombolalaw12_alive.f kj22).bind fun t122 => (some t122)) else (some false)) else (some false)) = some r := by rw [if_pos rfl] at H;exact H
        clear H
        have H := H1
        clear H1
        by_cases c38 : t106 = 10
        ·rw [if_pos c38] at H
         have c38b0 : (t106 == 10) = true := beq_iff_eq.mpr c38
         have c38b1 : (t106 != 10) = false := bne_eq_false_iff_eq.mpr c38
         clear c38
         by_cases c39 : (t103.length : Int) = 0
         ·rw [if_pos c39] at H
          have c39b0 : ((t103.length : Int) == 0) = true := beq_iff_eq.mpr c39
          have c39b1 : ((t103.length : Int) != 0) = false := bne_eq_false_iff_eq.mpr c39
          clear c39
          replace H := Option.bind_eq_some_iff.mp H
          obtain ⟨t122, A400, H⟩ := H
          replace H : (some t122) = some r := H
          have A40 := Aside0.mk A400
          clear A400
          obtain rfl := Option.some.inj H
          have hcz41_0 : wc.cell? ⟨gb107, 0, none⟩ = some (.int .u64 t102) := (blk_cell BK107.out 0).trans rfl
          have hcz41_1 : wc.cell? ⟨gb107, 1, none⟩ = some (.slice Ao27 t103.length co27) := (blk_cell BK107.out 1).trans rfl
          have hfz41_0 := blk_frozen BK107.out 0
          have hfz41_1 := blk_frozen BK107.out 1
          go_wp2_with (first|(go_at_call 26;(with_reducible refine (tombolalaw12_alive.calls kj22  t122 _ A40.out).mono ?_);rintro e w42 ⟨rfl, hb⟩;have n0_ := Aside0.mk (Kd.R_below (by (with_reducible repeat (first|apply Kd.R_alloc|apply Kd.R_drewN|apply Kd.R_drew));exact HO_108001.out) hb);have n1_ := Aside0.mk (blk_below (g := gb107) (o := .cells #[.int .u64 t102, .slice Ao27 t103.length co27] 53 (0, 0)) (by (with_reducible repeat (first|refine blk_drewN ?_ _|refine blk_drew ?_|refine blk_alloc ?_ _));exact BK107.out) hb);have n2_ := Aside0.mk (below_step (by repeat (first|(with_reducible first|exact HB.out|apply below_alloc|apply pw_below_drewN|apply below_drew1|refine below_set ?_ GE107.out)|exact HB.out)) hb);clear HO_108001;clear BK107;clear HB;have HO_108001 := n0_;have BK107 := n1_;have HB := n2_;clear n0_ n1_ n2_;(try clear hb);(try clear hb2);(try clear hk);(try clear hi)))
          go_ret
          exact ⟨by first|rfl|(simp [errW_none, errW_some] <;> rfl)|(simp [*, errW_none, errW_some] <;> rfl), by repeat (first|(with_reducible first|exact HB.out|apply below_alloc|apply pw_below_drewN|apply below_drew1|refine below_set ?_ GE107.out)|exact HB.out)⟩
         ·rw [if_neg c39] at H
          have c39b0 : ((t103.length : Int) == 0) = false := beq_eq_false_iff_ne.mpr c39
          have c39b1 : ((t103.length : Int) != 0) = true := bne_iff_ne.mpr c39
          have c39b2 : ¬ (t103 = []) := fun h_ => c39 (by rw [h_];rfl)
          exact absurd ((Option.some.inj H).trans ht_.out) (by simp)
        ·rw [if_neg c38] at H
         have c38b0 : (t106 == 10) = false := beq_eq_false_iff_ne.mpr c38
         have c38b1 : (t106 != 10) = true := bne_iff_ne.mpr c38
         exact absurd ((Option.some.inj H).trans ht_.out) (by simp)
       ·replace c37 := Bool.eq_false_iff.mpr c37
        subst c37
        have H1 : (if t109 = 0 then (if t106 = 1 then (if (t103.length : Int) = 0 then ((tombolalaw12_alive.f kj22).bind fun t123 => (some t123)) else (some false)) else (some false)) else ((tombolalaw12_columns.f kj22 t102 t103).bind fun t124 => (if t106 = 0 then (if t102 = t109 then (if (t124.length : Int) = (l0.length : Int) then ((tombolaref12_Right.f kj22 t109 t124).bind fun t127 => (if t127 = true then ((alias_Fair.f kj22 t102 t103 l0).bind fun t128 => (tombolalaw12_AliasBuilds.j2 kj22 l0 t109 t124 (!t128))) else (tombolalaw12_AliasBuilds.j2 kj22 l0 t109 t124 true))) else (tombolalaw12_AliasBuilds.j2 kj22 l0 t109 t124 true)) else (tombolalaw12_AliasBuilds.j2 kj22 l0 t109 t124 true)) else (tombolalaw12_AliasBuilds.j2 kj22 l0 t109 t124 true)))) = some r := by rw [if_neg (show ¬ (false = true) by decide)] at H;exact H
        clear H
        have H := H1
        clear H1
        by_cases c43 : t109 = 0
        ·rw [if_pos c43] at H
         have c43b0 : (t109 == 0) = true := beq_iff_eq.mpr c43
         have c43b1 : (t109 != 0) = false := bne_eq_false_iff_eq.mpr c43
         clear c43
         by_cases c44 : t106 = 1
         ·rw [if_pos c44] at H
          have c44b0 : (t106 == 1) = true := beq_iff_eq.mpr c44
          have c44b1 : (t106 != 1) = false := bne_eq_false_iff_eq.mpr c44
          clear c44
          by_cases c45 : (t103.length : Int) = 0
          ·rw [if_pos c45] at H
           have c45b0 : ((t103.length : Int) == 0) = true := beq_iff_eq.mpr c45
           have c45b1 : ((t103.length : Int) != 0) = false := bne_eq_false_iff_eq.mpr c45
           clear c45
           replace H := Option.bind_eq_some_iff.mp H
           obtain ⟨t123, A460, H⟩ := H
           replace H : (some t123) = some r := H
           have A46 := Aside0.mk A460
           clear A460
           obtain rfl := Option.some.inj H
           have hcz47_0 : wc.cell? ⟨gb107, 0, none⟩ = some (.int .u64 t102) := (blk_cell BK107.out 0).trans rfl
           have hcz47_1 : wc.cell? ⟨gb107, 1, none⟩ = some (.slice Ao27 t103.length co27) := (blk_cell BK107.out 1).trans rfl
           have hfz47_0 := blk_frozen BK107.out 0
           have hfz47_1 := blk_frozen BK107.out 1
           go_wp2_with (first|(go_at_call 26;(with_reducible refine (tombolalaw12_alive.calls kj22  t123 _ A46.out).mono ?_);rintro e w48 ⟨rfl, hb⟩;have n0_ := Aside0.mk (Kd.R_below (by (with_reducible repeat (first|apply Kd.R_alloc|apply Kd.R_drewN|apply Kd.R_drew));exact HO_108001.out) hb);have n1_ := Aside0.mk (blk_below (g := gb107) (o := .cells #[.int .u64 t102, .slice Ao27 t103.length co27] 53 (0, 0)) (by (with_reducible repeat (first|refine blk_drewN ?_ _|refine blk_drew ?_|refine blk_alloc ?_ _));exact BK107.out) hb);have n2_ := Aside0.mk (below_step (by repeat (first|(with_reducible first|exact HB.out|apply below_alloc|apply pw_below_drewN|apply below_drew1|refine below_set ?_ GE107.out)|exact HB.out)) hb);clear HO_108001;clear BK107;clear HB;have HO_108001 := n0_;have BK107 := n1_;have HB := n2_;clear n0_ n1_ n2_;(try clear hb);(try clear hb2);(try clear hk);(try clear hi)))
           go_ret
           exact ⟨by first|rfl|(simp [errW_none, errW_some] <;> rfl)|(simp [*, errW_none, errW_some] <;> rfl), by repeat (first|(with_reducible first|exact HB.out|apply below_alloc|apply pw_below_drewN|apply below_drew1|refine below_set ?_ GE107.out)|exact HB.out)⟩
          ·rw [if_neg c45] at H
           have c45b0 : ((t103.length : Int) == 0) = false := beq_eq_false_iff_ne.mpr c45
           have c45b1 : ((t103.length : Int) != 0) = true := bne_iff_ne.mpr c45
           have c45b2 : ¬ (t103 = []) := fun h_ => c45 (by rw [h_];rfl)
           exact absurd ((Option.some.inj H).trans ht_.out) (by simp)
         ·rw [if_neg c44] at H
          have c44b0 : (t106 == 1) = false := beq_eq_false_iff_ne.mpr c44
          have c44b1 : (t106 != 1) = true := bne_iff_ne.mpr c44
          exact absurd ((Option.some.inj H).trans ht_.out) (by simp)
        ·rw [if_neg c43] at H
         have c43b0 : (t109 == 0) = false := beq_eq_false_iff_ne.mpr c43
         have c43b1 : (t109 != 0) = true := bne_iff_ne.mpr c43
         replace H := Option.bind_eq_some_iff.mp H
         obtain ⟨t124, A490, H⟩ := H
         replace H : (if t106 = 0 then (if t102 = t109 then (if (t124.length : Int) = (l0.length : Int) then ((tombolaref12_Right.f kj22 t109 t124).bind fun t127 => (if t127 = true then ((alias_Fair.f kj22 t102 t103 l0).bind fun t128 => (tombolalaw12_AliasBuilds.j2 kj22 l0 t109 t124 (!t128))) else (tombolalaw12_AliasBuilds.j2 kj22 l0 t109 t124 true))) else (tombolalaw12_AliasBuilds.j2 kj22 l0 t109 t124 true)) else (tombolalaw12_AliasBuilds.j2 kj22 l0 t109 t124 true)) else (tombolalaw12_AliasBuilds.j2 kj22 l0 t109 t124 true)) = some r := H
         have A49 := Aside0.mk A490
         clear A490
         have HC50 := Aside0.mk H
         clear H
         have hcz51_0 : wc.cell? ⟨gb107, 0, none⟩ = some (.int .u64 t102) := (blk_cell BK107.out 0).trans rfl
         have hcz51_1 : wc.cell? ⟨gb107, 1, none⟩ = some (.slice Ao27 t103.length co27) := (blk_cell BK107.out 1).trans rfl
         have hfz51_0 := blk_frozen BK107.out 0
         have hfz51_1 := blk_frozen BK107.out 1
         go_upto_region 13 with (first|((with_reducible refine gate_callee (f := 27) rfl ?_);refine goesL_ (some 93) rfl rfl Try.func27 (by kernel_rfl) rfl #[.agg #[.int .u64 t102, .slice Ao27 t103.length co27]] rfl (by (try simp only [List.map_toArray, List.map_cons, List.map_nil]);first|done|rfl|(simp only [List.length_drop, List.length_take];rfl)) ?_;(with_reducible refine (tombolalaw12_columns.calls kj22 t102 _ _ t103 t124 _ ?side1 ?side2 A49.out).mono ?_);(case side1 => repeat (first|exact (Kd.R_reads' HO_108001.out).2.2|(with_reducible refine Kd.C_alloc ?_ _)|(with_reducible refine Kd.C_drewN ?_ _)|(with_reducible refine Kd.C_drew ?_)));(case side2 => exact (Kd.R_reads' HO_108001.out).2.1);rintro e w52 ⟨v125, rfl, ho0, hb⟩;refine ⟨_, rfl, ?_⟩;have n0_ := Aside0.mk (Kd.R_below (by (with_reducible repeat (first|apply Kd.R_alloc|apply Kd.R_drewN|apply Kd.R_drew));exact HO_108001.out) hb);have n1_ := Aside0.mk (Kd.R_lower ho0 (below_size (by repeat (first|(with_reducible first|exact HB.out|apply below_alloc|apply pw_below_drewN|apply below_drew1|refine below_set ?_ GE107.out)|exact HB.out))));have n2_ := Aside0.mk (blk_below (g := gb107) (o := .cells #[.int .u64 t102, .slice Ao27 t103.length co27] 53 (0, 0)) (by (with_reducible repeat (first|refine blk_drewN ?_ _|refine blk_drew ?_|refine blk_alloc ?_ _));exact BK107.out) hb);have n3_ := Aside0.mk (below_step (by repeat (first|(with_reducible first|exact HB.out|apply below_alloc|apply pw_below_drewN|apply below_drew1|refine below_set ?_ GE107.out)|exact HB.out)) hb);clear HO_108001;clear BK107;clear HB;have HO_108001 := n0_;have HO126 := n1_;have BK107 := n2_;have HB := n3_;clear n0_ n1_ n2_ n3_;(try clear hb);(try clear hb2);(try clear hk);(try clear hi);(try clear ho0)))
         (try simp only [Act.put, List.setIfInBounds_toArray, List.set_cons_zero, List.set_cons_succ])
         go_cut [120] (fun v120 wc => ∃ (kq : Nat) (x120_49 : Bool), v120 = .bool x120_49 ∧ Aside0 (tombolalaw12_AliasBuilds.j2 kq l0 t109 t124 x120_49 = some r) ∧ Aside0 (kq ≤ kj22) ∧ Aside0 (Kd.R k66 66 wc w.heap.size (fun _ => True) v125 t124) ∧ Aside0 (Kd.R k107 107 wc w.heap.size (fun _ => True) (.slice Ao27 t103.length co27) t103) ∧ Aside0 (wc.heap[gb107]? = some (.cells #[.int .u64 t102, (.slice Ao27 t103.length co27)] 53 (0, 0))) ∧ Aside0 (Below w.heap.size w wc))
         case first =>
          have H := HC50.out
          clear HC50
          by_cases c53 : t106 = 0
          ·rw [if_pos c53] at H
           have c53b0 : (t106 == 0) = true := beq_iff_eq.mpr c53
           have c53b1 : (t106 != 0) = false := bne_eq_false_iff_eq.mpr c53
           clear c53
           (first|rw [c53b0]|rw [c53b1]|(simp only [i64_w, i32_w];rw [c53b0])|skip)
           by_cases c54 : t102 = t109
           ·rw [if_pos c54] at H
            have c54b0 : (t102 == t109) = true := beq_iff_eq.mpr c54
            have c54b1 : (t102 != t109) = false := bne_eq_false_iff_eq.mpr c54
            clear c54
            by_cases c55 : (t124.length : Int) = (l0.length : Int)
            ·rw [if_pos c55] at H
             have c55b0 : ((t124.length : Int) == (l0.length : Int)) = true := beq_iff_eq.mpr c55
             have c55b1 : ((t124.length : Int) != (l0.length : Int)) = false := bne_eq_false_iff_eq.mpr c55
             have c55b2 : (t124.length == l0.length) = true := by first|simpa using c55|(simp at c55 ⊢;omega)
             clear c55
             replace H := Option.bind_eq_some_iff.mp H
             obtain ⟨t127, A560, H⟩ := H
             replace H : (if t127 = true then ((alias_Fair.f kj22 t102 t103 l0).bind fun t128 => (tombolalaw12_AliasBuilds.j2 kj22 l0 t109 t124 (!t128))) else (tombolalaw12_AliasBuilds.j2 kj22 l0 t109 t124 true)) = some r := H
             have A56 := Aside0.mk A560
             clear A560
             by_cases c57 : t127 = true
             ·subst c57
              have H1 : ((alias_Fair.f kj22 t102 t103 l0).bind fun t128 => (tombolalaw12_AliasBuilds.j2 kj22 l0 t109 t124 (!t128))) = some r := by rw [if_pos rfl] at H;exact H
              clear H
              have H := H1
              clear H1
              replace H := Option.bind_eq_some_iff.mp H
              obtain ⟨t128, A580, H⟩ := H
              replace H : (tombolalaw12_AliasBuilds.j2 kj22 l0 t109 t124 (!t128)) = some r := H
              have A58 := Aside0.mk A580
              clear A580
              have H' := Aside0.mk H
              clear H
              have hcz59_0 : w52.cell? ⟨gb107, 0, none⟩ = some (.int .u64 t102) := (blk_cell BK107.out 0).trans rfl
              have hcz59_1 : w52.cell? ⟨gb107, 1, none⟩ = some (.slice Ao27 t103.length co27) := (blk_cell BK107.out 1).trans rfl
              have hfz59_0 := blk_frozen BK107.out 0
              have hfz59_1 := blk_frozen BK107.out 1
              obtain ⟨Ao60, co60, eo60⟩ := Kd.R_slice HO126.out
              subst eo60
              go_wp2_with (first|(go_at_call 31;(with_reducible refine (tombolaref12_Right.calls kj22 t109 _ _ t124 true _ ?side1 ?side2 A56.out).mono ?_);(case side1 => repeat (first|exact (Kd.R_reads' HO126.out).2.2|(with_reducible refine Kd.C_alloc ?_ _)|(with_reducible refine Kd.C_drewN ?_ _)|(with_reducible refine Kd.C_drew ?_)));(case side2 => exact (Kd.R_reads' HO126.out).2.1);rintro e w' ⟨rfl, ⟨nd, rfl⟩⟩)|(go_at_call 32;(with_reducible refine (alias_Fair.calls kj22 t102 _ _ t103 _ _ l0 t128 _ ?side1 ?side2 ?side3 ?side4 A58.out).mono ?_);(case side1 => repeat (first|exact (Kd.R_reads' HO_108001.out).2.2|(with_reducible refine Kd.C_alloc ?_ _)|(with_reducible refine Kd.C_drewN ?_ _)|(with_reducible refine Kd.C_drew ?_)));(case side2 => exact (Kd.R_reads' HO_108001.out).2.1);(case side3 => repeat (first|exact (Kd.C_below HR0.out (by repeat (first|(with_reducible first|exact HB.out|apply below_alloc|apply pw_below_drewN|apply below_drew1|refine below_set ?_ GE107.out)|exact HB.out)))|(with_reducible refine Kd.C_alloc ?_ _)|(with_reducible refine Kd.C_drewN ?_ _)|(with_reducible refine Kd.C_drew ?_)));(case side4 => exact HC0.out);rintro e w61 ⟨rfl, hb⟩;have n0_ := Aside0.mk (Kd.R_below (by (with_reducible repeat (first|apply Kd.R_alloc|apply Kd.R_drewN|apply Kd.R_drew));exact HO_108001.out) hb);have n1_ := Aside0.mk (Kd.R_below (by (with_reducible repeat (first|apply Kd.R_alloc|apply Kd.R_drewN|apply Kd.R_drew));exact HO126.out) hb);have n2_ := Aside0.mk (blk_below (g := gb107) (o := .cells #[.int .u64 t102, .slice Ao27 t103.length co27] 53 (0, 0)) (by (with_reducible repeat (first|refine blk_drewN ?_ _|refine blk_drew ?_|refine blk_alloc ?_ _));exact BK107.out) hb);have n3_ := Aside0.mk (below_step (by repeat (first|(with_reducible first|exact HB.out|apply below_alloc|apply pw_below_drewN|apply below_drew1|refine below_set ?_ GE107.out)|exact HB.out)) hb);clear HO_108001;clear HO126;clear BK107;clear HB;have HO_108001 := n0_;have HO126 := n1_;have BK107 := n2_;have HB := n3_;clear n0_ n1_ n2_ n3_;(try clear hb);(try clear hb2);(try clear hk);(try clear hi)))
              go_meet
              case rel => exact ⟨_, (!t128), (by first|rfl|(simp;done)|(simp [*];done)), H', ⟨by have := HJ1.out;have := HJ22.out;first|omega|exact Nat.le_refl _⟩, ⟨by (with_reducible repeat (first|apply Kd.R_alloc|apply Kd.R_drewN|apply Kd.R_drew));exact HO126.out⟩, ⟨by (with_reducible repeat (first|apply Kd.R_alloc|apply Kd.R_drewN|apply Kd.R_drew));exact HO_108001.out⟩, ⟨by (with_reducible repeat (first|refine blk_drewN ?_ _|refine blk_drew ?_|refine blk_alloc ?_ _));exact BK107.out⟩, ⟨by repeat (first|(with_reducible first|exact HB.out|apply below_alloc|apply pw_below_drewN|apply below_drew1|refine below_set ?_ GE107.out)|exact HB.out)⟩⟩
             ·replace c57 := Bool.eq_false_iff.mpr c57
              subst c57
              have H1 : (tombolalaw12_AliasBuilds.j2 kj22 l0 t109 t124 true) = some r := by rw [if_neg (show ¬ (false = true) by decide)] at H;exact H
              clear H
              have H := H1
              clear H1
              have hr_ := ht_.out
              subst hr_
              exact absurd H (by cases kj22 <;> simp [tombolalaw12_AliasBuilds.j2])
            ·rw [if_neg c55] at H
             have c55b0 : ((t124.length : Int) == (l0.length : Int)) = false := beq_eq_false_iff_ne.mpr c55
             have c55b1 : ((t124.length : Int) != (l0.length : Int)) = true := bne_iff_ne.mpr c55
             have c55b2 : (t124.length == l0.length) = false := by first|simpa using c55|(simp at c55 ⊢;omega)
             have hr_ := ht_.out
             subst hr_
             exact absurd H (by cases kj22 <;> simp [tombolalaw12_AliasBuilds.j2])
           ·rw [if_neg c54] at H
            have c54b0 : (t102 == t109) = false := beq_eq_false_iff_ne.mpr c54
            have c54b1 : (t102 != t109) = true := bne_iff_ne.mpr c54
            have hr_ := ht_.out
            subst hr_
            exact absurd H (by cases kj22 <;> simp [tombolalaw12_AliasBuilds.j2])
          ·rw [if_neg c53] at H
           have c53b0 : (t106 == 0) = false := beq_eq_false_iff_ne.mpr c53
           have c53b1 : (t106 != 0) = true := bne_iff_ne.mpr c53
           (first|rw [c53b0]|rw [c53b1]|(simp only [i64_w, i32_w];rw [c53b0])|skip)
           have hr_ := ht_.out
           subst hr_
           exact absurd H (by cases kj22 <;> simp [tombolalaw12_AliasBuilds.j2])
         case rest => as_aux_lemma =>
          clear HC50
          try clear c1
          try clear c2
          try clear p2
          try clear c3
          try clear c3b0
          try clear c3b1
          try clear c4
          try clear c4b0
          try clear c4b1
          try clear c5
          try clear c7
          try clear c9
          try clear c9b0
          try clear c9b1
          try clear c10
          try clear c10b0
          try clear c10b1
          try clear c11
          try clear c11b0
          try clear c11b1
          try clear c11b2
          try clear c26
          try clear c27
          try clear c33
          try clear c34
          try clear c35
          try clear c36
          try clear c37
          try clear c38
          try clear c38b0
          try clear c38b1
          try clear c39
          try clear c39b0
          try clear c39b1
          try clear c39b2
          try clear c43
          try clear c43b0
          try clear c43b1
          try clear c44
          try clear c44b0
          try clear c44b1
          try clear c45
          try clear c45b0
          try clear c45b1
          try clear c45b2
          try clear c53
          try clear c53b0
          try clear c53b1
          try clear c54
          try clear c54b0
          try clear c54b1
          try clear c55
          try clear c55b0
          try clear c55b1
          try clear c55b2
          try clear c57
          try clear hcz15_0
          try clear hcz15_1
          try clear hcz26_0
          try clear hcz26_1
          try clear hcz41_0
          try clear hcz41_1
          try clear hcz47_0
          try clear hcz47_1
          try clear hcz51_0
          try clear hcz51_1
          try clear hcz59_0
          try clear hcz59_1
          try clear hfz15_0
          try clear hfz15_1
          try clear hfz26_0
          try clear hfz26_1
          try clear hfz41_0
          try clear hfz41_1
          try clear hfz47_0
          try clear hfz47_1
          try clear hfz51_0
          try clear hfz51_1
          try clear hfz59_0
          try clear hfz59_1
          try clear p2
          obtain ⟨kq, x120_49, rfl, HA, HJ49, HO_9, HO_108001, BK107, HB⟩ := hcut
          cases kq with
          | zero => exact absurd HA.out (by simp [tombolalaw12_AliasBuilds.j2])
          | succ kj49 =>
           have H := HA.out
           clear HA
           simp only [tombolalaw12_AliasBuilds.j2] at H
           by_cases c62 : x120_49 = true
           ·subst c62
            have H1 : (some false) = some r := by rw [if_pos rfl] at H;exact H
            clear H
            have H := H1
            clear H1
            exact absurd ((Option.some.inj H).trans ht_.out) (by simp)
           ·replace c62 := Bool.eq_false_iff.mpr c62
            subst c62
            have H1 : (tombolalaw12_AliasBuilds.l0 kj49 l0 t109 t124 0) = some r := by rw [if_neg (show ¬ (false = true) by decide)] at H;exact H
            clear H
            have H := H1
            clear H1
            have H' := Aside0.mk H
            clear H
            go_wp2
            go_loopg [10] kj49 (fun kq v10 w' => ∃ (x10_4 : Int), v10 = .int .i64 x10_4 ∧ Aside0 (tombolalaw12_AliasBuilds.l0 kq l0 t109 t124 x10_4 = some r) ∧ Aside0 (kq ≤ kj49) ∧ Aside0 (Kd.R k66 66 w' w.heap.size (fun _ => True) v125 t124) ∧ Aside0 (Kd.R k107 107 w' w.heap.size (fun _ => True) (.slice Ao27 t103.length co27) t103) ∧ Aside0 (w'.heap[gb107]? = some (.cells #[.int .u64 t102, (.slice Ao27 t103.length co27)] 53 (0, 0))) ∧ Aside0 (Below w.heap.size w w'))
            case atStart => exact ⟨(0), (by first|rfl|(simp;done)|(simp [*];done)), H', ⟨Nat.le_refl _⟩, ⟨by (with_reducible repeat (first|apply Kd.R_alloc|apply Kd.R_drewN|apply Kd.R_drew));exact HO_9.out⟩, ⟨by (with_reducible repeat (first|apply Kd.R_alloc|apply Kd.R_drewN|apply Kd.R_drew));exact HO_108001.out⟩, ⟨by (with_reducible repeat (first|refine blk_drewN ?_ _|refine blk_drew ?_|refine blk_alloc ?_ _));exact BK107.out⟩, ⟨by repeat (first|(with_reducible first|exact HB.out|apply below_alloc|apply pw_below_drewN|apply below_drew1|refine below_set ?_ GE107.out)|exact HB.out)⟩⟩
            case round =>
             clear H'
             try clear c1
             try clear c2
             try clear p2
             try clear c3
             try clear c3b0
             try clear c3b1
             try clear c4
             try clear c4b0
             try clear c4b1
             try clear c5
             try clear c6
             try clear c7
             try clear c9
             try clear c9b0
             try clear c9b1
             try clear c10
             try clear c10b0
             try clear c10b1
             try clear c11
             try clear c11b0
             try clear c11b1
             try clear c11b2
             try clear c26
             try clear c27
             try clear c33
             try clear c34
             try clear c35
             try clear c36
             try clear c37
             try clear c38
             try clear c38b0
             try clear c38b1
             try clear c39
             try clear c39b0
             try clear c39b1
             try clear c39b2
             try clear c43
             try clear c43b0
             try clear c43b1
             try clear c44
             try clear c44b0
             try clear c44b1
             try clear c45
             try clear c45b0
             try clear c45b1
             try clear c45b2
             try clear c53
             try clear c53b0
             try clear c53b1
             try clear c54
             try clear c54b0
             try clear c54b1
             try clear c55
             try clear c55b0
             try clear c55b1
             try clear c55b2
             try clear c57
             try clear c62
             try clear hcz15_0
             try clear hcz15_1
             try clear hcz26_0
             try clear hcz26_1
             try clear hcz41_0
             try clear hcz41_1
             try clear hcz47_0
             try clear hcz47_1
             try clear hcz51_0
             try clear hcz51_1
             try clear hcz59_0
             try clear hcz59_1
             try clear hfz15_0
             try clear hfz15_1
             try clear hfz26_0
             try clear hfz26_1
             try clear hfz41_0
             try clear hfz41_1
             try clear hfz47_0
             try clear hfz47_1
             try clear hfz51_0
             try clear hfz51_1
             try clear hfz59_0
             try clear hfz59_1
             try clear p2
             obtain ⟨x10_4, rfl, HA, HK4, HO_9, HO_108001, BK107, HB⟩ := hrel
             cases gk with
             | zero => exact absurd HA.out (by simp [tombolalaw12_AliasBuilds.l0])
             | succ k4 =>
              have H := HA.out
              clear HA
              simp only [tombolalaw12_AliasBuilds.l0] at H
              by_cases c63 : x10_4 < (l0.length : Int)
              ·rw [if_pos c63] at H
               have c63b0 : decide (x10_4 < (l0.length : Int)) = true := decide_eq_true c63
               clear c63
               replace H := Option.bind_eq_some_iff.mp H
               obtain ⟨t130, A640, H⟩ := H
               replace H : (if 0 ≤ x10_4 then ((tombolaref01_Of.f k4 (rd l0 x10_4)).bind fun t134 => ((tombolaref01_Of.f k4 (IntKind.u64.wrap ((l0.length : Int)))).bind fun t137 => ((tombolaref01_Mul.f k4 t134 t137).bind fun t140 => ((tombolaref01_Cmp.f k4 t130 t140).bind fun t143 => (if t143 = 0 then (tombolalaw12_AliasBuilds.l0 k4 l0 t109 t124 (wrap64 (x10_4 + 1))) else (some false)))))) else (none)) = some r := H
               have A64 := Aside0.mk A640
               clear A640
               by_cases c65 : 0 ≤ x10_4
               ·rw [if_pos c65] at H
                have c65b0 : decide (0 ≤ x10_4) = true := decide_eq_true c65
                clear c65
                replace H := Option.bind_eq_some_iff.mp H
                obtain ⟨t134, A660, H⟩ := H
                replace H : ((tombolaref01_Of.f k4 (IntKind.u64.wrap ((l0.length : Int)))).bind fun t137 => ((tombolaref01_Mul.f k4 t134 t137).bind fun t140 => ((tombolaref01_Cmp.f k4 t130 t140).bind fun t143 => (if t143 = 0 then (tombolalaw12_AliasBuilds.l0 k4 l0 t109 t124 (wrap64 (x10_4 + 1))) else (some false))))) = some r := H
                have A66 := Aside0.mk A660
                clear A660
                replace H := Option.bind_eq_some_iff.mp H
                obtain ⟨t137, A670, H⟩ := H
                replace H : ((tombolaref01_Mul.f k4 t134 t137).bind fun t140 => ((tombolaref01_Cmp.f k4 t130 t140).bind fun t143 => (if t143 = 0 then (tombolalaw12_AliasBuilds.l0 k4 l0 t109 t124 (wrap64 (x10_4 + 1))) else (some false)))) = some r := H
                have A67 := Aside0.mk A670
                clear A670
                replace H := Option.bind_eq_some_iff.mp H
                obtain ⟨t140, A680, H⟩ := H
                replace H : ((tombolaref01_Cmp.f k4 t130 t140).bind fun t143 => (if t143 = 0 then (tombolalaw12_AliasBuilds.l0 k4 l0 t109 t124 (wrap64 (x10_4 + 1))) else (some false))) = some r := H
                have A68 := Aside0.mk A680
                clear A680
                replace H := Option.bind_eq_some_iff.mp H
                obtain ⟨t143, A690, H⟩ := H
                replace H : (if t143 = 0 then (tombolalaw12_AliasBuilds.l0 k4 l0 t109 t124 (wrap64 (x10_4 + 1))) else (some false)) = some r := H
                have A69 := Aside0.mk A690
                clear A690
                by_cases c70 : t143 = 0
                ·rw [if_pos c70] at H
                 have c70b0 : (t143 == 0) = true := beq_iff_eq.mpr c70
                 have c70b1 : (t143 != 0) = false := bne_eq_false_iff_eq.mpr c70
                 clear c70
                 have H' := Aside0.mk H
                 clear H
                 try go_wp2
                 have n0_ := Aside0.mk (Kd.R_drew HO_9.out)
                 have n1_ := Aside0.mk (Kd.R_drew HO_108001.out)
                 have n2_ := Aside0.mk (blk_drew BK107.out)
                 have n3_ := Aside0.mk (below_drew1 HB.out)
                 clear HO_9
                 clear HO_108001
                 clear BK107
                 clear HB
                 have HO_9 := n0_
                 have HO_108001 := n1_
                 have BK107 := n2_
                 have HB := n3_
                 clear n0_ n1_ n2_ n3_
                 have p133 : 0 ≤ (x10_4 : Int) := of_decide_eq_true (by first|(with_reducible assumption)|assumption)
                 have q133 : x10_4 < (l0.length : Int) := of_decide_eq_true (by first|(with_reducible assumption)|assumption)
                 obtain ⟨ad133, e133, hx133_0⟩ := Kd.at_int HR0.out x10_4 p133 q133
                 have hw133_0 := hx133_0
                 cases e133
                 replace hx133_0 := (HB.out.cell (World.block_lt_of_cell? w _ hx133_0)).trans hx133_0
                 replace p133 := eq_true p133
                 replace q133 := eq_true q133
                 obtain ⟨Ao72, co72, eo72⟩ := Kd.R_slice HO_9.out
                 (first|subst eo72|(injection eo72 with f1_ f2_ f3_;have f4_ := f1_.symm;have f5_ := f3_.symm;clear f1_ f2_ f3_;subst f4_;subst f5_))
                 refine start_ (n := 16) (S := fun w' => w'.cell? (ad133.add (x10_4).toNat) = some (.int .u64 (rd l0 x10_4))) (ds := []) #[false, false, false, false, false, false, false, false, false, false, false, false, false, false, false, false] (by kernel_rfl) rfl rfl (((HB.out.cell (World.block_lt_of_cell? w _ hw133_0)).trans hw133_0)) (fun hHeld => ?_);refine with_tabW tombolalaw12_AliasBuilds.tab18 tombolalaw12_AliasBuilds.bits18 (fun HT_ HW_ => ?_)
                 generalize wr.drew = w71 at HO_9 HO_108001 BK107 HB hx133_0 hHeld ⊢
                 refine pure_ (i := 0) (N := some 127) (v := ?_) (a' := ?_) #[true, false, false, false, false, false, false, false, false, false, false, false, false, false, false, false] rfl rfl (any_of HT_.out (by kernel_rfl)) (fun _ _ _ h => h) (Or.inl ⟨by rfl, ?_⟩) ?_ ?_
                 rotate_left
                 ·intro w'
                  go_simp
                  with_reducible rfl
                 rotate_left
                 ·simp only [Act.put, List.setIfInBounds_toArray, List.set_cons_zero, List.set_cons_succ, i64_w, i32_w]
                  rfl
                 refine pure_ (i := 1) (N := some 128) (v := ?_) (a' := ?_) #[true, true, false, false, false, false, false, false, false, false, false, false, false, false, false, false] rfl rfl (any_of HT_.out (by kernel_rfl)) (fun _ _ _ h => h) (Or.inl ⟨by rfl, ?_⟩) ?_ ?_
                 rotate_left
                 ·intro w'
                  go_simp
                  with_reducible rfl
                 rotate_left
                 ·simp only [Act.put, List.setIfInBounds_toArray, List.set_cons_zero, List.set_cons_succ, i64_w, i32_w]
                  rfl
                 refine pure_ (i := 2) (N := some 129) (v := ?_) (a' := ?_) #[true, true, true, false, false, false, false, false, false, false, false, false, false, false, false, false] rfl rfl (any_of HT_.out (by kernel_rfl)) (fun _ _ _ h => h) (Or.inl ⟨by rfl, ?_⟩) ?_ ?_
                 rotate_left
                 ·intro w'
                  go_simp
                  with_reducible rfl
                 rotate_left
                 ·simp only [Act.put, List.setIfInBounds_toArray, List.set_cons_zero, List.set_cons_succ, i64_w, i32_w]
                  rfl
                 refine pure_ (i := 4) (N := some 131) (v := ?_) (a' := ?_) #[true, true, true, false, true, false, false, false, false, false, false, false, false, false, false, false] rfl rfl (any_of HT_.out (by kernel_rfl)) (fun _ _ _ h => h) (Or.inl ⟨by rfl, ?_⟩) ?_ ?_
                 rotate_left
                 ·intro w'
                  go_simp
                  with_reducible rfl
                 rotate_left
                 ·simp only [Act.put, List.setIfInBounds_toArray, List.set_cons_zero, List.set_cons_succ, i64_w, i32_w]
                  rfl
                 refine pure_ (i := 5) (N := some 132) (v := ?_) (a' := ?_) #[true, true, true, false, true, true, false, false, false, false, false, false, false, false, false, false] rfl rfl (any_of HT_.out (by kernel_rfl)) (fun _ _ _ h => h) (Or.inl ⟨by rfl, ?_⟩) ?_ ?_
                 rotate_left
                 ·intro w'
                  go_simp
                  with_reducible rfl
                 rotate_left
                 ·simp only [Act.put, List.setIfInBounds_toArray, List.set_cons_zero, List.set_cons_succ, i64_w, i32_w]
                  rfl
                 refine pure_ (i := 6) (N := some 133) (v := ?_) (a' := ?_) #[true, true, true, false, true, true, true, false, false, false, false, false, false, false, false, false] rfl rfl (any_of HT_.out (by kernel_rfl)) (fun _ _ _ h => h) (Or.inl ⟨by rfl, ?_⟩) ?_ ?_
                 rotate_left
                 ·intro w'
                  go_simp
                  with_reducible rfl
                 rotate_left
                 ·simp only [Act.put, List.setIfInBounds_toArray, List.set_cons_zero, List.set_cons_succ, i64_w, i32_w]
                  rfl
                 refine pure_ (i := 9) (N := some 136) (v := ?_) (a' := ?_) #[true, true, true, false, true, true, true, false, false, true, false, false, false, false, false, false] rfl rfl (any_of HT_.out (by kernel_rfl)) (fun _ _ _ h => h) (Or.inl ⟨by rfl, ?_⟩) ?_ ?_
                 rotate_left
                 ·intro w'
                  go_simp
                  with_reducible rfl
                 rotate_left
                 ·simp only [Act.put, List.setIfInBounds_toArray, List.set_cons_zero, List.set_cons_succ, i64_w, i32_w]
                  rfl
                 refine pure_ (i := 10) (N := some 137) (v := ?_) (a' := ?_) #[true, true, true, false, true, true, true, false, false, true, true, false, false, false, false, false] rfl rfl (any_of HT_.out (by kernel_rfl)) (fun _ _ _ h => h) (Or.inl ⟨by rfl, ?_⟩) ?_ ?_
                 rotate_left
                 ·intro w'
                  go_simp
                  with_reducible rfl
                 rotate_left
                 ·simp only [Act.put, List.setIfInBounds_toArray, List.set_cons_zero, List.set_cons_succ, i64_w, i32_w]
                  rfl
                 refine pure_ (i := 11) (N := some 138) (v := ?_) (a' := ?_) #[true, true, true, false, true, true, true, false, false, true, true, true, false, false, false, false] rfl rfl (any_of HT_.out (by kernel_rfl)) (fun _ _ _ h => h) (Or.inl ⟨by rfl, ?_⟩) ?_ ?_
                 rotate_left
                 ·intro w'
                  go_simp
                  with_reducible rfl
                 rotate_left
                 ·simp only [Act.put, List.setIfInBounds_toArray, List.set_cons_zero, List.set_cons_succ, i64_w, i32_w]
                  rfl
                 refine take_ (i := 7) (N := some 134) (v := ?_) (a' := ?_) #[true, true, true, false, true, true, true, true, false, true, true, true, false, false, false, false] rfl rfl (take_ofW HT_.out HW_.out (by kernel_rfl)) (fun _ _ _ h => h) (Or.inl ⟨by rfl, ?_⟩) hHeld ?_ ?_
                 rotate_left
                 ·intro w' s0
                  go_simp
                  with_reducible rfl
                 rotate_left
                 ·simp only [Act.put, List.setIfInBounds_toArray, List.set_cons_zero, List.set_cons_succ, i64_w, i32_w]
                  rfl
                 refine one_ (i := 3) (N := some 130) #[true, true, true, true, true, true, true, true, false, true, true, true, false, false, false, false] rfl rfl (one_of HT_.out (by kernel_rfl)) (by decide) (fun K hK => ?_)
                 refine goes_ Try.func36 (by kernel_rfl) rfl #[.int .u64 t109, .slice Ao72 t124.length co72, .int .i64 x10_4] (by rfl) rfl rfl (by (try simp only [List.map_toArray, List.map_cons, List.map_nil]);first|done|rfl|(simp only [List.length_drop, List.length_take];rfl)) ?_
                 with_reducible refine (tombolaref12_Count.calls k4 t109 _ _ t124 x10_4 t130 _ ?side1 ?side2 A64.out).mono ?_
                 (case side1 => repeat (first|exact (Kd.R_reads' HO_9.out).2.2|(with_reducible refine Kd.C_alloc ?_ _)|(with_reducible refine Kd.C_drewN ?_ _)|(with_reducible refine Kd.C_drew ?_)))
                 (case side2 => exact (Kd.R_reads' HO_9.out).2.1)
                 rintro e w73 ⟨v131, rfl, ho0, hb⟩
                 refine ⟨_, rfl, ?_⟩
                 have n0_ := Aside0.mk (Kd.R_below (by (with_reducible repeat (first|apply Kd.R_alloc|apply Kd.R_drewN|apply Kd.R_drew));exact HO_9.out) hb)
                 have n1_ := Aside0.mk (Kd.R_below (by (with_reducible repeat (first|apply Kd.R_alloc|apply Kd.R_drewN|apply Kd.R_drew));exact HO_108001.out) hb)
                 have n2_ := Aside0.mk (Kd.R_lower ho0 (below_size (by repeat (first|(with_reducible first|exact HB.out|apply below_alloc|apply pw_below_drewN|apply below_drew1|refine below_set ?_ GE107.out)|exact HB.out))))
                 have n3_ := Aside0.mk (blk_below (g := gb107) (o := .cells #[.int .u64 t102, .slice Ao27 t103.length co27] 53 (0, 0)) (by (with_reducible repeat (first|refine blk_drewN ?_ _|refine blk_drew ?_|refine blk_alloc ?_ _));exact BK107.out) hb)
                 have n4_ := Aside0.mk (below_step (by repeat (first|(with_reducible first|exact HB.out|apply below_alloc|apply pw_below_drewN|apply below_drew1|refine below_set ?_ GE107.out)|exact HB.out)) hb)
                 clear HO_9
                 clear HO_108001
                 clear BK107
                 clear HB
                 have HO_9 := n0_
                 have HO_108001 := n1_
                 have HO132 := n2_
                 have BK107 := n3_
                 have HB := n4_
                 clear n0_ n1_ n2_ n3_ n4_
                 (try clear hb)
                 (try clear hb2)
                 (try clear hk)
                 (try clear hi)
                 (try clear ho0)
                 refine hK.out _ _ (((HB.out.cell (World.block_lt_of_cell? w _ hw133_0)).trans hw133_0)) (fun hHeld => ?_)
                 clear hK K
                 refine norm_ (a' := ?_) ?_ ?_
                 rotate_left
                 ·show Act.put _ (some 130) _ = _
                  simp only [Act.put, List.setIfInBounds_toArray, List.set_cons_zero, List.set_cons_succ, i64_w, i32_w]
                  rfl
                 refine one_ (i := 8) (N := some 135) #[true, true, true, true, true, true, true, true, true, true, true, true, false, false, false, false] rfl rfl (one_of HT_.out (by kernel_rfl)) (by decide) (fun K hK => ?_)
                 refine goes_ Try.func35 (by kernel_rfl) rfl #[.int .u64 (rd l0 x10_4)] (by rfl) rfl rfl (by (try simp only [List.map_toArray, List.map_cons, List.map_nil]);first|done|rfl|(simp only [List.length_drop, List.length_take];rfl)) ?_
                 with_reducible refine (tombolaref01_Of.calls k4 (rd l0 x10_4) t134 _ A66.out).mono ?_
                 rintro e w74 ⟨v135, rfl, ho0, hb⟩
                 refine ⟨_, rfl, ?_⟩
                 have n0_ := Aside0.mk (Kd.R_below (by (with_reducible repeat (first|apply Kd.R_alloc|apply Kd.R_drewN|apply Kd.R_drew));exact HO_9.out) hb)
                 have n1_ := Aside0.mk (Kd.R_below (by (with_reducible repeat (first|apply Kd.R_alloc|apply Kd.R_drewN|apply Kd.R_drew));exact HO_108001.out) hb)
                 have n2_ := Aside0.mk (Kd.R_elder' (by (with_reducible repeat (first|apply Kd.R_alloc|apply Kd.R_drewN|apply Kd.R_drew));exact HO132.out) (Kd.R_base ho0) hb)
                 have n3_ := Aside0.mk (Kd.R_lower (Kd.R_new' ho0 (Kd.R_lt (by (with_reducible repeat (first|apply Kd.R_alloc|apply Kd.R_drewN|apply Kd.R_drew));exact HO132.out))) (below_size (by repeat (first|(with_reducible first|exact HB.out|apply below_alloc|apply pw_below_drewN|apply below_drew1|refine below_set ?_ GE107.out)|exact HB.out))))
                 have n4_ := Aside0.mk (blk_below (g := gb107) (o := .cells #[.int .u64 t102, .slice Ao27 t103.length co27] 53 (0, 0)) (by (with_reducible repeat (first|refine blk_drewN ?_ _|refine blk_drew ?_|refine blk_alloc ?_ _));exact BK107.out) hb)
                 have n5_ := Aside0.mk (below_step (by repeat (first|(with_reducible first|exact HB.out|apply below_alloc|apply pw_below_drewN|apply below_drew1|refine below_set ?_ GE107.out)|exact HB.out)) hb)
                 clear HO_9
                 clear HO_108001
                 clear HO132
                 clear BK107
                 clear HB
                 have HO_9 := n0_
                 have HO_108001 := n1_
                 have HO132 := n2_
                 have HO136 := n3_
                 have BK107 := n4_
                 have HB := n5_
                 clear n0_ n1_ n2_ n3_ n4_ n5_
                 (try clear hb)
                 (try clear hb2)
                 (try clear hk)
                 (try clear hi)
                 (try clear ho0)
                 refine hK.out _ _ (((HB.out.cell (World.block_lt_of_cell? w _ hw133_0)).trans hw133_0)) (fun hHeld => ?_)
                 clear hK K
                 refine norm_ (a' := ?_) ?_ ?_
                 rotate_left
                 ·show Act.put _ (some 135) _ = _
                  simp only [Act.put, List.setIfInBounds_toArray, List.set_cons_zero, List.set_cons_succ, i64_w, i32_w]
                  rfl
                 refine one_ (i := 12) (N := some 139) #[true, true, true, true, true, true, true, true, true, true, true, true, true, false, false, false] rfl rfl (one_of HT_.out (by kernel_rfl)) (by decide) (fun K hK => ?_)
                 refine goes_ Try.func35 (by kernel_rfl) rfl #[.int .u64 (IntKind.u64.wrap ((l0.length : Int)))] (by rfl) rfl rfl (by (try simp only [List.map_toArray, List.map_cons, List.map_nil]);first|done|rfl|(simp only [List.length_drop, List.length_take];rfl)) ?_
                 with_reducible refine (tombolaref01_Of.calls k4 (IntKind.u64.wrap ((l0.length : Int))) t137 _ A67.out).mono ?_
                 rintro e w75 ⟨v138, rfl, ho0, hb⟩
                 refine ⟨_, rfl, ?_⟩
                 have n0_ := Aside0.mk (Kd.R_below (by (with_reducible repeat (first|apply Kd.R_alloc|apply Kd.R_drewN|apply Kd.R_drew));exact HO_9.out) hb)
                 have n1_ := Aside0.mk (Kd.R_below (by (with_reducible repeat (first|apply Kd.R_alloc|apply Kd.R_drewN|apply Kd.R_drew));exact HO_108001.out) hb)
                 have n2_ := Aside0.mk (Kd.R_elder' (by (with_reducible repeat (first|apply Kd.R_alloc|apply Kd.R_drewN|apply Kd.R_drew));exact HO132.out) (Kd.R_base ho0) hb)
                 have n3_ := Aside0.mk (Kd.R_elder' (by (with_reducible repeat (first|apply Kd.R_alloc|apply Kd.R_drewN|apply Kd.R_drew));exact HO136.out) (Kd.R_base ho0) hb)
                 have n4_ := Aside0.mk (Kd.R_lower (Kd.R_new' (Kd.R_new' ho0 (Kd.R_lt (by (with_reducible repeat (first|apply Kd.R_alloc|apply Kd.R_drewN|apply Kd.R_drew));exact HO132.out))) (Kd.R_lt (by (with_reducible repeat (first|apply Kd.R_alloc|apply Kd.R_drewN|apply Kd.R_drew));exact HO136.out))) (below_size (by repeat (first|(with_reducible first|exact HB.out|apply below_alloc|apply pw_below_drewN|apply below_drew1|refine below_set ?_ GE107.out)|exact HB.out))))
                 have n5_ := Aside0.mk (blk_below (g := gb107) (o := .cells #[.int .u64 t102, .slice Ao27 t103.length co27] 53 (0, 0)) (by (with_reducible repeat (first|refine blk_drewN ?_ _|refine blk_drew ?_|refine blk_alloc ?_ _));exact BK107.out) hb)
                 have n6_ := Aside0.mk (below_step (by repeat (first|(with_reducible first|exact HB.out|apply below_alloc|apply pw_below_drewN|apply below_drew1|refine below_set ?_ GE107.out)|exact HB.out)) hb)
                 clear HO_9
                 clear HO_108001
                 clear HO132
                 clear HO136
                 clear BK107
                 clear HB
                 have HO_9 := n0_
                 have HO_108001 := n1_
                 have HO132 := n2_
                 have HO136 := n3_
                 have HO139 := n4_
                 have BK107 := n5_
                 have HB := n6_
                 clear n0_ n1_ n2_ n3_ n4_ n5_ n6_
                 (try clear hb)
                 (try clear hb2)
                 (try clear hk)
                 (try clear hi)
                 (try clear ho0)
                 obtain ⟨Ao76, co76, eo76⟩ := Kd.R_slice HO136.out
                 (first|subst eo76|(injection eo76 with f1_ f2_ f3_;have f4_ := f1_.symm;have f5_ := f3_.symm;clear f1_ f2_ f3_;subst f4_;subst f5_))
                 obtain ⟨Ao77, co77, eo77⟩ := Kd.R_slice HO139.out
                 (first|subst eo77|(injection eo77 with f1_ f2_ f3_;have f4_ := f1_.symm;have f5_ := f3_.symm;clear f1_ f2_ f3_;subst f4_;subst f5_))
                 refine hK.out _ _ (((HB.out.cell (World.block_lt_of_cell? w _ hw133_0)).trans hw133_0)) (fun hHeld => ?_)
                 clear hK K
                 refine norm_ (a' := ?_) ?_ ?_
                 rotate_left
                 ·show Act.put _ (some 139) _ = _
                  simp only [Act.put, List.setIfInBounds_toArray, List.set_cons_zero, List.set_cons_succ, i64_w, i32_w]
                  rfl
                 refine one_ (i := 13) (N := some 140) #[true, true, true, true, true, true, true, true, true, true, true, true, true, true, false, false] rfl rfl (one_of HT_.out (by kernel_rfl)) (by decide) (fun K hK => ?_)
                 refine goes_ Try.func34 (by kernel_rfl) rfl #[.agg #[.slice Ao76 t134.length co76], .agg #[.slice Ao77 t137.length co77]] (by rfl) rfl rfl (by (try simp only [List.map_toArray, List.map_cons, List.map_nil]);first|done|rfl|(simp only [List.length_drop, List.length_take];rfl)) ?_
                 with_reducible refine (tombolaref01_Mul.calls k4 _ _ t134 _ _ t137 t140 _ ?side1 ?side2 ?side3 ?side4 A68.out).mono ?_
                 (case side1 => repeat (first|exact (Kd.R_reads' HO136.out).2.2|(with_reducible refine Kd.C_alloc ?_ _)|(with_reducible refine Kd.C_drewN ?_ _)|(with_reducible refine Kd.C_drew ?_)))
                 (case side2 => exact (Kd.R_reads' HO136.out).2.1)
                 (case side3 => repeat (first|exact (Kd.R_reads' HO139.out).2.2|(with_reducible refine Kd.C_alloc ?_ _)|(with_reducible refine Kd.C_drewN ?_ _)|(with_reducible refine Kd.C_drew ?_)))
                 (case side4 => exact (Kd.R_reads' HO139.out).2.1)
                 rintro e w78 ⟨v141, rfl, ho0, hb⟩
                 refine ⟨_, rfl, ?_⟩
                 have n0_ := Aside0.mk (Kd.R_below (by (with_reducible repeat (first|apply Kd.R_alloc|apply Kd.R_drewN|apply Kd.R_drew));exact HO_9.out) hb)
                 have n1_ := Aside0.mk (Kd.R_below (by (with_reducible repeat (first|apply Kd.R_alloc|apply Kd.R_drewN|apply Kd.R_drew));exact HO_108001.out) hb)
                 have n2_ := Aside0.mk (Kd.R_elder' (by (with_reducible repeat (first|apply Kd.R_alloc|apply Kd.R_drewN|apply Kd.R_drew));exact HO132.out) (Kd.R_base ho0) hb)
                 have n3_ := Aside0.mk (Kd.R_elder' (by (with_reducible repeat (first|apply Kd.R_alloc|apply Kd.R_drewN|apply Kd.R_drew));exact HO136.out) (Kd.R_base ho0) hb)
                 have n4_ := Aside0.mk (Kd.R_elder' (by (with_reducible repeat (first|apply Kd.R_alloc|apply Kd.R_drewN|apply Kd.R_drew));exact HO139.out) (Kd.R_base ho0) hb)
                 have n5_ := Aside0.mk (Kd.R_lower (Kd.R_new' (Kd.R_new' (Kd.R_new' ho0 (Kd.R_lt (by (with_reducible repeat (first|apply Kd.R_alloc|apply Kd.R_drewN|apply Kd.R_drew));exact HO132.out))) (Kd.R_lt (by (with_reducible repeat (first|apply Kd.R_alloc|apply Kd.R_drewN|apply Kd.R_drew));exact HO136.out))) (Kd.R_lt (by (with_reducible repeat (first|apply Kd.R_alloc|apply Kd.R_drewN|apply Kd.R_drew));exact HO139.out))) (below_size (by repeat (first|(with_reducible first|exact HB.out|apply below_alloc|apply pw_below_drewN|apply below_drew1|refine below_set ?_ GE107.out)|exact HB.out))))
                 have n6_ := Aside0.mk (blk_below (g := gb107) (o := .cells #[.int .u64 t102, .slice Ao27 t103.length co27] 53 (0, 0)) (by (with_reducible repeat (first|refine blk_drewN ?_ _|refine blk_drew ?_|refine blk_alloc ?_ _));exact BK107.out) hb)
                 have n7_ := Aside0.mk (below_step (by repeat (first|(with_reducible first|exact HB.out|apply below_alloc|apply pw_below_drewN|apply below_drew1|refine below_set ?_ GE107.out)|exact HB.out)) hb)
                 clear HO_9
                 clear HO_108001
                 clear HO132
                 clear HO136
                 clear HO139
                 clear BK107
                 clear HB
                 have HO_9 := n0_
                 have HO_108001 := n1_
                 have HO132 := n2_
                 have HO136 := n3_
                 have HO139 := n4_
                 have HO142 := n5_
                 have BK107 := n6_
                 have HB := n7_
                 clear n0_ n1_ n2_ n3_ n4_ n5_ n6_ n7_
                 (try clear hb)
                 (try clear hb2)
                 (try clear hk)
                 (try clear hi)
                 (try clear ho0)
                 obtain ⟨Ao79, co79, eo79⟩ := Kd.R_slice HO132.out
                 (first|subst eo79|(injection eo79 with f1_ f2_ f3_;have f4_ := f1_.symm;have f5_ := f3_.symm;clear f1_ f2_ f3_;subst f4_;subst f5_))
                 obtain ⟨Ao80, co80, eo80⟩ := Kd.R_slice HO142.out
                 (first|subst eo80|(injection eo80 with f1_ f2_ f3_;have f4_ := f1_.symm;have f5_ := f3_.symm;clear f1_ f2_ f3_;subst f4_;subst f5_))
                 refine hK.out _ _ (((HB.out.cell (World.block_lt_of_cell? w _ hw133_0)).trans hw133_0)) (fun hHeld => ?_)
                 clear hK K
                 refine norm_ (a' := ?_) ?_ ?_
                 rotate_left
                 ·show Act.put _ (some 140) _ = _
                  simp only [Act.put, List.setIfInBounds_toArray, List.set_cons_zero, List.set_cons_succ, i64_w, i32_w]
                  rfl
                 refine one_ (i := 14) (N := some 141) #[true, true, true, true, true, true, true, true, true, true, true, true, true, true, true, false] rfl rfl (one_of HT_.out (by kernel_rfl)) (by decide) (fun K hK => ?_)
                 refine goes_ Try.func38 (by kernel_rfl) rfl #[.agg #[.slice Ao79 t130.length co79], .agg #[.slice Ao80 t140.length co80]] (by rfl) rfl rfl (by (try simp only [List.map_toArray, List.map_cons, List.map_nil]);first|done|rfl|(simp only [List.length_drop, List.length_take];rfl)) ?_
                 with_reducible refine (tombolaref01_Cmp.calls k4 _ _ t130 _ _ t140 t143 _ ?side1 ?side2 ?side3 ?side4 A69.out).mono ?_
                 (case side1 => repeat (first|exact (Kd.R_reads' HO132.out).2.2|(with_reducible refine Kd.C_alloc ?_ _)|(with_reducible refine Kd.C_drewN ?_ _)|(with_reducible refine Kd.C_drew ?_)))
                 (case side2 => exact (Kd.R_reads' HO132.out).2.1)
                 (case side3 => repeat (first|exact (Kd.R_reads' HO142.out).2.2|(with_reducible refine Kd.C_alloc ?_ _)|(with_reducible refine Kd.C_drewN ?_ _)|(with_reducible refine Kd.C_drew ?_)))
                 (case side4 => exact (Kd.R_reads' HO142.out).2.1)
                 rintro e w81 ⟨rfl, hb⟩
                 refine ⟨_, rfl, ?_⟩
                 have n0_ := Aside0.mk (Kd.R_below (by (with_reducible repeat (first|apply Kd.R_alloc|apply Kd.R_drewN|apply Kd.R_drew));exact HO_9.out) hb)
                 have n1_ := Aside0.mk (Kd.R_below (by (with_reducible repeat (first|apply Kd.R_alloc|apply Kd.R_drewN|apply Kd.R_drew));exact HO_108001.out) hb)
                 have n2_ := Aside0.mk (Kd.R_below (by (with_reducible repeat (first|apply Kd.R_alloc|apply Kd.R_drewN|apply Kd.R_drew));exact HO132.out) hb)
                 have n3_ := Aside0.mk (Kd.R_below (by (with_reducible repeat (first|apply Kd.R_alloc|apply Kd.R_drewN|apply Kd.R_drew));exact HO136.out) hb)
                 have n4_ := Aside0.mk (Kd.R_below (by (with_reducible repeat (first|apply Kd.R_alloc|apply Kd.R_drewN|apply Kd.R_drew));exact HO139.out) hb)
                 have n5_ := Aside0.mk (Kd.R_below (by (with_reducible repeat (first|apply Kd.R_alloc|apply Kd.R_drewN|apply Kd.R_drew));exact HO142.out) hb)
                 have n6_ := Aside0.mk (blk_below (g := gb107) (o := .cells #[.int .u64 t102, .slice Ao27 t103.length co27] 53 (0, 0)) (by (with_reducible repeat (first|refine blk_drewN ?_ _|refine blk_drew ?_|refine blk_alloc ?_ _));exact BK107.out) hb)
                 have n7_ := Aside0.mk (below_step (by repeat (first|(with_reducible first|exact HB.out|apply below_alloc|apply pw_below_drewN|apply below_drew1|refine below_set ?_ GE107.out)|exact HB.out)) hb)
                 clear HO_9
                 clear HO_108001
                 clear HO132
                 clear HO136
                 clear HO139
                 clear HO142
                 clear BK107
                 clear HB
                 have HO_9 := n0_
                 have HO_108001 := n1_
                 have HO132 := n2_
                 have HO136 := n3_
                 have HO139 := n4_
                 have HO142 := n5_
                 have BK107 := n6_
                 have HB := n7_
                 clear n0_ n1_ n2_ n3_ n4_ n5_ n6_ n7_
                 (try clear hb)
                 (try clear hb2)
                 (try clear hk)
                 (try clear hi)
                 refine hK.out _ _ (((HB.out.cell (World.block_lt_of_cell? w _ hw133_0)).trans hw133_0)) (fun hHeld => ?_)
                 clear hK K
                 refine norm_ (a' := ?_) ?_ ?_
                 rotate_left
                 ·show Act.put _ (some 141) _ = _
                  simp only [Act.put, List.setIfInBounds_toArray, List.set_cons_zero, List.set_cons_succ, i64_w, i32_w]
                  rfl
                 refine pure_ (i := 15) (N := some 142) (v := ?_) (a' := ?_) #[true, true, true, true, true, true, true, true, true, true, true, true, true, true, true, true] rfl rfl (any_of HT_.out (by kernel_rfl)) (fun _ _ _ h => h) (Or.inl ⟨by rfl, ?_⟩) ?_ ?_
                 rotate_left
                 ·intro w'
                  go_simp
                  with_reducible rfl
                 rotate_left
                 ·simp only [Act.put, List.setIfInBounds_toArray, List.set_cons_zero, List.set_cons_succ, i64_w, i32_w]
                  rfl
                 refine done_ (done_of HT_.out (by kernel_rfl)) ?_
                 try go_wp2
                 go_roundg k4
                 case measure => have := HJ1.out;have := HJ22.out;have := HJ49.out;have := HK4.out;omega
                 case rel => exact ⟨(wrap64 (x10_4 + 1)), (by first|rfl|(simp;done)|(simp [*];done)), H', ⟨by have := HJ1.out;have := HJ22.out;have := HJ49.out;have := HK4.out;omega⟩, ⟨by (with_reducible repeat (first|apply Kd.R_alloc|apply Kd.R_drewN|apply Kd.R_drew));exact HO_9.out⟩, ⟨by (with_reducible repeat (first|apply Kd.R_alloc|apply Kd.R_drewN|apply Kd.R_drew));exact HO_108001.out⟩, ⟨by (with_reducible repeat (first|refine blk_drewN ?_ _|refine blk_drew ?_|refine blk_alloc ?_ _));exact BK107.out⟩, ⟨by repeat (first|(with_reducible first|exact HB.out|apply below_alloc|apply pw_below_drewN|apply below_drew1|refine below_set ?_ GE107.out)|exact HB.out)⟩⟩
                ·rw [if_neg c70] at H
                 have c70b0 : (t143 == 0) = false := beq_eq_false_iff_ne.mpr c70
                 have c70b1 : (t143 != 0) = true := bne_iff_ne.mpr c70
                 exact absurd ((Option.some.inj H).trans ht_.out) (by simp)
               ·rw [if_neg c65] at H
                exact absurd H (by simp)
              ·rw [if_neg c63] at H
               have c63b0 : decide (x10_4 < (l0.length : Int)) = false := decide_eq_false c63
               clear c63
               replace H := Option.bind_eq_some_iff.mp H
               obtain ⟨t129, A820, H⟩ := H
               replace H : (some t129) = some r := H
               have A82 := Aside0.mk A820
               clear A820
               obtain rfl := Option.some.inj H
               go_wp2_with (first|((with_reducible refine gate_callee (f := 26) rfl ?_);refine goesL_ (some 143) rfl rfl Try.func26 (by kernel_rfl) rfl #[] rfl (by (try simp only [List.map_toArray, List.map_cons, List.map_nil]);first|done|rfl|(simp only [List.length_drop, List.length_take];rfl)) ?_;(with_reducible refine (tombolalaw12_alive.calls k4  t129 _ A82.out).mono ?_);rintro e w83 ⟨rfl, hb⟩;refine ⟨_, rfl, ?_⟩;have n0_ := Aside0.mk (Kd.R_below (by (with_reducible repeat (first|apply Kd.R_alloc|apply Kd.R_drewN|apply Kd.R_drew));exact HO_9.out) hb);have n1_ := Aside0.mk (Kd.R_below (by (with_reducible repeat (first|apply Kd.R_alloc|apply Kd.R_drewN|apply Kd.R_drew));exact HO_108001.out) hb);have n2_ := Aside0.mk (blk_below (g := gb107) (o := .cells #[.int .u64 t102, .slice Ao27 t103.length co27] 53 (0, 0)) (by (with_reducible repeat (first|refine blk_drewN ?_ _|refine blk_drew ?_|refine blk_alloc ?_ _));exact BK107.out) hb);have n3_ := Aside0.mk (below_step (by repeat (first|(with_reducible first|exact HB.out|apply below_alloc|apply pw_below_drewN|apply below_drew1|refine below_set ?_ GE107.out)|exact HB.out)) hb);clear HO_9;clear HO_108001;clear BK107;clear HB;have HO_9 := n0_;have HO_108001 := n1_;have BK107 := n2_;have HB := n3_;clear n0_ n1_ n2_ n3_;(try clear hb);(try clear hb2);(try clear hk);(try clear hi)))
               go_ret
               exact ⟨by first|rfl|(simp [errW_none, errW_some] <;> rfl)|(simp [*, errW_none, errW_some] <;> rfl), by repeat (first|(with_reducible first|exact HB.out|apply below_alloc|apply pw_below_drewN|apply below_drew1|refine below_set ?_ GE107.out)|exact HB.out)⟩
end Go.Proofs.Ytjphoempoinedaa.F
