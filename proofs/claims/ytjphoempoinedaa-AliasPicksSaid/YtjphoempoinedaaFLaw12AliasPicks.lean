-- Cut for this claim by a program (wip/prune.py) out of the texts that its bench laid or wrote
import Derived.Test.YtjphoempoinedaaF0
import Derived.Test.YtjphoempoinedaaFeq
import Derived.Test.YtjphoempoinedaaFRef01A
import Derived.Test.YtjphoempoinedaaFAliasA
import Derived.Test.YtjphoempoinedaaFLaw12alive
import Derived.Test.YtjphoempoinedaaFLaw12columns
import Derived.Test.YtjphoempoinedaaFAliasC
import Derived.Test.YtjphoempoinedaaFRef12A
import Derived.Test.YtjphoempoinedaaFRef09A
import Derived.Test.YtjphoempoinedaaFRef01B
namespace Go.Proofs.Ytjphoempoinedaa.F
open Go.RowKit Go.Proofs.YtjphoempoinedaaW.PrintWords Go.Proofs.YtjphoempoinedaaW.PrintLast Go.Proofs.YtjphoempoinedaaW.PrintMore
attribute [local go_sem] max2_int min2_int max_two min_two max_three min_three max_four min_four
set_option linter.unusedVariables false
set_option linter.unusedSimpArgs false
attribute [local go_sem high] eqA26
mutual
def tombolalaw12_AliasPicks.j0 : Nat → Int → Int → List Int → Bool → Int → List (S107) → Option (Bool)
 | 0, _, _, _, _, _, _ => none
 | k + 1, x1, x2, x3, x33, x102000, x102001 => if x33 = true then ((tombolalaw12_alive.f k).bind fun t102 => (some t102)) else ((tombolalaw12_columns.f k x102000 x102001).bind fun t103 => ((alias_Pick.f k x102000 x102001 x1).bind fun bt106 => ((alias_Numbers.f x102000 x102001).bind fun bt108 => ((alias_Count.f k x102000 x102001 x2).bind fun bt110 => ((tombolaref12_Right.f k x102000 t103).bind fun t114 => (if t114 = true then ((tombolaref01_Of.f k x102000).bind fun t117 => ((tombolaref01_Of.f k (IntKind.u64.wrap ((t103.length : Int)))).bind fun t120 => ((tombolaref01_Mul.f k t117 t120).bind fun t123 => ((tombolaref01_Word.f k t123).bind fun bt126 => ((tombolaref12_Count.f k x102000 t103 x2).bind fun t128 => ((tombolaref01_Back.f k t128).bind fun bt131 => (if bt108.1 = bt126.1 then (if (bt108.2 != bt126.2) = true then (tombolalaw12_AliasPicks.j1 k x1 x3 t103 bt106.1 bt106.2 bt108.1 bt126.2 true x102000 x102001) else (if (!(bt110.1 == bt131.1) || (!(bt110.2.1 == bt131.2.1))) = true then (tombolalaw12_AliasPicks.j1 k x1 x3 t103 bt106.1 bt106.2 bt108.1 bt126.2 true x102000 x102001) else (tombolalaw12_AliasPicks.j1 k x1 x3 t103 bt106.1 bt106.2 bt108.1 bt126.2 (!bt110.2.2) x102000 x102001))) else (tombolalaw12_AliasPicks.j1 k x1 x3 t103 bt106.1 bt106.2 bt108.1 bt126.2 true x102000 x102001)))))))) else (if bt106.1 = (-1) then (if bt106.2 = true then (some false) else (if bt108.1 = 0 then (if bt108.2 = true then (some false) else (if (bt110.1 == 0 && (bt110.2.1 == 0)) = true then (if bt110.2.2 = true then (some false) else ((alias_Fair.f k x102000 x102001 x3).bind fun t115 => (if t115 = true then (some false) else ((tombolalaw12_alive.f k).bind fun t116 => (some t116))))) else (some false))) else (some false))) else (some false))))))))
def tombolalaw12_AliasPicks.j1 : Nat → Int → List Int → List (S66) → Int → Bool → Int → Bool → Bool → Int → List (S107) → Option (Bool)
 | 0, _, _, _, _, _, _, _, _, _, _ => none
 | k + 1, x1, x3, x9, x10, x11, x12, x17, x128, x102000, x102001 => if x128 = true then (some false) else (if x17 = true then (tombolalaw12_AliasPicks.j2 k x1 x3 x9 x10 x11 (decide (x1 ≥ x12)) x102000 x102001) else (tombolalaw12_AliasPicks.j2 k x1 x3 x9 x10 x11 true x102000 x102001))
def tombolalaw12_AliasPicks.j2 : Nat → Int → List Int → List (S66) → Int → Bool → Bool → Int → List (S107) → Option (Bool)
 | 0, _, _, _, _, _, _, _, _ => none
 | k + 1, x1, x3, x9, x10, x11, x135, x102000, x102001 => if x135 = true then (if x10 = (-1) then (if x11 = true then (some false) else (tombolalaw12_AliasPicks.j3 k x3 x9 x102000 x102001)) else (some false)) else (if x102000 = 0 then (none) else (if 0 ≤ (wrap64 (IntKind.u64.wrap (Int.tdiv x1 x102000))) then (if (wrap64 (IntKind.u64.wrap (Int.tdiv x1 x102000))) < (x9.length : Int) then (if (Int.tmod x1 x102000) ≥ ((rd_T66 x9 (wrap64 (IntKind.u64.wrap (Int.tdiv x1 x102000)))).f0) then (if x10 = ((rd_T66 x9 (wrap64 (IntKind.u64.wrap (Int.tdiv x1 x102000)))).f1) then (if x11 = true then (tombolalaw12_AliasPicks.j3 k x3 x9 x102000 x102001) else (some false)) else (some false)) else (if x10 = (wrap64 (IntKind.u64.wrap (Int.tdiv x1 x102000))) then (if x11 = true then (tombolalaw12_AliasPicks.j3 k x3 x9 x102000 x102001) else (some false)) else (some false))) else (none)) else (none)))
def tombolalaw12_AliasPicks.j3 : Nat → List Int → List (S66) → Int → List (S107) → Option (Bool)
 | 0, _, _, _, _ => none
 | k + 1, x3, x9, x102000, x102001 => (tombolaref09_Total.f k x3).bind fun bt137 => (if bt137.2 = true then (if bt137.1 = x102000 then (tombolalaw12_AliasPicks.j4 k x3 x9 ((x3.length : Int) == (x9.length : Int)) x102000 x102001) else (tombolalaw12_AliasPicks.j4 k x3 x9 false x102000 x102001)) else (tombolalaw12_AliasPicks.j4 k x3 x9 false x102000 x102001))
def tombolalaw12_AliasPicks.j4 : Nat → List Int → List (S66) → Bool → Int → List (S107) → Option (Bool)
 | 0, _, _, _, _, _ => none
 | k + 1, x3, x9, x23, x102000, x102001 => tombolalaw12_AliasPicks.l0 k x3 x9 x23 0 x102000 x102001
def tombolalaw12_AliasPicks.l0 : Nat → List Int → List (S66) → Bool → Int → Int → List (S107) → Option (Bool)
 | 0, _, _, _, _, _, _ => none
 | k + 1, x3, x9, x23, x24, x102000, x102001 => if x24 < (x3.length : Int) then (tombolalaw12_AliasPicks.j6 k x3 x9 x23 x24 x23 x102000 x102001) else (tombolalaw12_AliasPicks.j6 k x3 x9 x23 x24 false x102000 x102001)
def tombolalaw12_AliasPicks.j6 : Nat → List Int → List (S66) → Bool → Int → Bool → Int → List (S107) → Option (Bool)
 | 0, _, _, _, _, _, _, _ => none
 | k + 1, x3, x9, x23, x24, x193, x102000, x102001 => if x193 = true then ((tombolaref12_Count.f k x102000 x9 x24).bind fun t141 => (if 0 ≤ x24 then (if x24 < (x3.length : Int) then ((tombolaref01_Of.f k (rd x3 x24)).bind fun t145 => ((tombolaref01_Of.f k (IntKind.u64.wrap ((x3.length : Int)))).bind fun t148 => ((tombolaref01_Mul.f k t145 t148).bind fun t151 => ((tombolaref01_Cmp.f k t141 t151).bind fun t154 => (tombolalaw12_AliasPicks.l0 k x3 x9 (t154 == 0) (wrap64 (x24 + 1)) x102000 x102001))))) else (none)) else (none))) else ((alias_Fair.f k x102000 x102001 x3).bind fun t139 => (if (t139 == x23) = true then ((tombolalaw12_alive.f k).bind fun t140 => (some t140)) else (some false)))
end
def tombolalaw12_AliasPicks.f (k : Nat) (a0_0 : Int) (l0_1 : List (S107)) (a1 : Int) (a2 : Int) (l3 : List Int) : Option (Bool) := if (l0_1.length : Int) > 100 then (tombolalaw12_AliasPicks.j0 k a1 a2 l3 true a0_0 l0_1) else (tombolalaw12_AliasPicks.j0 k a1 a2 l3 (decide ((l3.length : Int) > 100)) a0_0 l0_1)
def tombolalaw12_AliasPicks.T17 : Bool × List (List Nat × List Nat) := (true, [([], []), ([], []), ([1], [1]), ([0, 2], [0, 2]), ([], []), ([], []), ([4, 5], [4, 5]), ([6], [6]), ([7], [7]), ([3, 8], [3, 8])])
def tombolalaw12_AliasPicks.B17 : List Nat := [0, 0, 2, 7, 0, 0, 48, 112, 240, 511]
theorem tombolalaw12_AliasPicks.tab17 : rtab .any (opsOf Try.f6 17) = tombolalaw12_AliasPicks.T17 := by kernel_rfl
theorem tombolalaw12_AliasPicks.bits17 : waitsOk tombolalaw12_AliasPicks.T17.2 tombolalaw12_AliasPicks.B17 = true := by kernel_rfl
def tombolalaw12_AliasPicks.T26 : Bool × List (List Nat × List Nat) := (true, [([], []), ([0], [0]), ([], []), ([], []), ([1, 2, 3], [1, 2, 3]), ([], []), ([], []), ([5, 6], [5, 6]), ([7], [7]), ([8, 4], [8]), ([], []), ([10], [10]), ([11], [11]), ([12, 9], [12]), ([9, 13, 13], [9, 13]), ([4, 14, 14], [4, 14]), ([15], [15]), ([16, 15, 0, 1, 2, 3, 4, 5, 6, 7, 8, 9, 10, 11, 12, 13, 14, 15, 16], [16])])
def tombolalaw12_AliasPicks.B26 : List Nat := [0, 1, 0, 0, 15, 0, 0, 96, 224, 511, 0, 1024, 3072, 8191, 16383, 32767, 65535, 131071]
theorem tombolalaw12_AliasPicks.tab26 : rtab .any (opsOf Try.f6 26) = tombolalaw12_AliasPicks.T26 := by kernel_rfl
theorem tombolalaw12_AliasPicks.bits26 : waitsOk tombolalaw12_AliasPicks.T26.2 tombolalaw12_AliasPicks.B26 = true := by kernel_rfl
set_option maxHeartbeats 8000000 in
set_option maxRecDepth 100000 in
theorem tombolalaw12_AliasPicks.calls (k : Nat) (a0_0 : Int) (A0_1 : Option Addr) (c0_1 : Nat) (l0_1 : List (S107)) (a1 : Int) (a2 : Int) (A3 : Option Addr) (c3 : Nat) (l3 : List Int) (r : Bool) (ht_ : Aside0 (r = true)) (w : World) (hr0_1 : Kd.C k107 w A0_1 l0_1.length l0_1) (hc0_1 : l0_1.length ≤ c0_1) (hr3 : Kd.C (Kd.int .u64) w A3 l3.length l3) (hc3 : l3.length ≤ c3) (h : tombolalaw12_AliasPicks.f k a0_0 l0_1 a1 a2 l3 = some r) :
  Calls Try.prog 6 #[.agg #[.int .u64 a0_0, .slice A0_1 l0_1.length c0_1], .int .u64 a1, .int .i64 a2, .slice A3 l3.length c3] w fun e w' => e = .returned (.bool r) ∧ Below w.heap.size w w' := by
 have hu53 := Try.underlying53
 have hu26 := Try.underlying26
 have HR0_1 := Aside0.mk hr0_1
 have HC0_1 := Aside0.mk hc0_1
 clear hr0_1 hc0_1
 have HR3 := Aside0.mk hr3
 have HC3 := Aside0.mk hc3
 clear hr3 hc3
 have HB := Aside0.mk (Below.refl w.heap.size w)
 have H : (if (l0_1.length : Int) > 100 then (tombolalaw12_AliasPicks.j0 k a1 a2 l3 true a0_0 l0_1) else (tombolalaw12_AliasPicks.j0 k a1 a2 l3 (decide ((l3.length : Int) > 100)) a0_0 l0_1)) = some r := h
 clear h
 have HC5 := Aside0.mk H
 clear H
 go_enter Try.func6, Try.ntmps6
 go_upto_region 1 with (first|((with_reducible refine gate_dst (N := 4) rfl ?_);(try (refine gate_guard (by rfl) ?_;dsimp only));refine box_event ?hg (N := 4) ?hd (cs := #[.int .u64 a0_0, .slice A0_1 l0_1.length c0_1]) (t := 53) ?hr ?_;(case hd => rfl);(case hg => rfl);(case hr => first|(go_simp;done)|(go_simp;rfl));intro gb101 hg w6 hbox hb;have n0_ := Aside0.mk (below_step (by repeat (first|(with_reducible first|exact HB.out|apply below_alloc|apply pw_below_drewN|apply below_drew1)|exact HB.out)) hb);have n1_ := Aside0.mk (hbox);have n2_ := Aside0.mk ((by rw [hg];exact (below_size (by repeat (first|(with_reducible first|exact HB.out|apply below_alloc|apply pw_below_drewN|apply below_drew1)|exact HB.out))) : w.heap.size ≤ gb101));have n3_ := Aside0.mk ((by rw [hg];exact (below_size (by repeat (first|(with_reducible first|exact HB.out|apply below_alloc|apply pw_below_drewN|apply below_drew1)|exact HB.out))) : w.heap.size ≤ gb101));clear HB;have HB := n0_;have BK101 := n1_;have GW101 := n2_;have GE101 := n3_;clear n0_ n1_ n2_ n3_;clear hb hbox hg))
 (try simp only [Act.put, List.setIfInBounds_toArray, List.set_cons_zero, List.set_cons_succ])
 go_cut [33] (fun v33 wc => ∃ (kq : Nat) (x33_4 : Bool), v33 = .bool x33_4 ∧ Aside0 (tombolalaw12_AliasPicks.j0 kq a1 a2 l3 x33_4 a0_0 l0_1 = some r) ∧ Aside0 (kq ≤ k) ∧ Aside0 (wc.heap[gb101]? = some (.cells #[.int .u64 a0_0, (.slice A0_1 l0_1.length c0_1)] 53 (0, 0))) ∧ Aside0 (Below w.heap.size w wc))
 case first =>
  have H := HC5.out
  clear HC5
  by_cases c7 : (l0_1.length : Int) > 100
  ·rw [if_pos c7] at H
   have c7b0 : decide (100 < (l0_1.length : Int)) = true := decide_eq_true c7
   have c7b1 : decide (100 < l0_1.length) = true := decide_eq_true (by omega)
   clear c7
   (first|rw [c7b0]|rw [c7b1]|(simp only [i64_w, i32_w];rw [c7b0])|skip)
   have H' := Aside0.mk H
   clear H
   have hcz8_0 : w6.cell? ⟨gb101, 0, none⟩ = some (.int .u64 a0_0) := (blk_cell BK101.out 0).trans rfl
   have hcz8_1 : w6.cell? ⟨gb101, 1, none⟩ = some (.slice A0_1 l0_1.length c0_1) := (blk_cell BK101.out 1).trans rfl
   have hfz8_0 := blk_frozen BK101.out 0
   have hfz8_1 := blk_frozen BK101.out 1
   go_wp2
   go_meet
   case rel => exact ⟨_, (true), (by first|rfl|(simp;done)|(simp [*];done)), H', ⟨by first|omega|exact Nat.le_refl _⟩, ⟨by (with_reducible repeat (first|refine blk_drewN ?_ _|refine blk_drew ?_|refine blk_alloc ?_ _));exact BK101.out⟩, ⟨by repeat (first|(with_reducible first|exact HB.out|apply below_alloc|apply pw_below_drewN|apply below_drew1|refine below_set ?_ GE101.out)|exact HB.out)⟩⟩
  ·rw [if_neg c7] at H
   have c7b0 : decide (100 < (l0_1.length : Int)) = false := decide_eq_false c7
   have c7b1 : decide (100 < l0_1.length) = false := decide_eq_false (by omega)
   clear c7
   (first|rw [c7b0]|rw [c7b1]|(simp only [i64_w, i32_w];rw [c7b0])|skip)
   have H' := Aside0.mk H
   clear H
   have hcz9_0 : w6.cell? ⟨gb101, 0, none⟩ = some (.int .u64 a0_0) := (blk_cell BK101.out 0).trans rfl
   have hcz9_1 : w6.cell? ⟨gb101, 1, none⟩ = some (.slice A0_1 l0_1.length c0_1) := (blk_cell BK101.out 1).trans rfl
   have hfz9_0 := blk_frozen BK101.out 0
   have hfz9_1 := blk_frozen BK101.out 1
   go_wp2
   go_meet
   case rel => exact ⟨_, (decide ((l3.length : Int) > 100)), (by first|rfl|(simp;done)|(simp [*];done)), H', ⟨by first|omega|exact Nat.le_refl _⟩, ⟨by (with_reducible repeat (first|refine blk_drewN ?_ _|refine blk_drew ?_|refine blk_alloc ?_ _));exact BK101.out⟩, ⟨by repeat (first|(with_reducible first|exact HB.out|apply below_alloc|apply pw_below_drewN|apply below_drew1|refine below_set ?_ GE101.out)|exact HB.out)⟩⟩
 case rest => as_aux_lemma =>
  clear HC5
  try clear p2
  try clear c3
  try clear c6
  try clear c7
  try clear c7b0
  try clear c7b1
  try clear hcz8_0
  try clear hcz8_1
  try clear hcz9_0
  try clear hcz9_1
  try clear hfz8_0
  try clear hfz8_1
  try clear hfz9_0
  try clear hfz9_1
  obtain ⟨kq, x33_4, rfl, HA, HJ4, BK101, HB⟩ := hcut
  cases kq with
  | zero => exact absurd HA.out (by simp [tombolalaw12_AliasPicks.j0])
  | succ kj4 =>
   have H := HA.out
   clear HA
   simp only [tombolalaw12_AliasPicks.j0] at H
   by_cases c10 : x33_4 = true
   ·subst c10
    have H1 : ((tombolalaw12_alive.f kj4).bind fun t102 => (some t102)) = some r := by rw [if_pos rfl] at H;exact H
    clear H
    have H := H1
    clear H1
    replace H := Option.bind_eq_some_iff.mp H
    obtain ⟨t102, A110, H⟩ := H
    replace H : (some t102) = some r := H
    have A11 := Aside0.mk A110
    clear A110
    obtain rfl := Option.some.inj H
    go_wp2_with (first|((with_reducible refine gate_callee (f := 26) rfl ?_);refine goesL_ (some 34) rfl rfl Try.func26 (by kernel_rfl) rfl #[] rfl (by (try simp only [List.map_toArray, List.map_cons, List.map_nil]);first|done|rfl|(simp only [List.length_drop, List.length_take];rfl)) ?_;(with_reducible refine (tombolalaw12_alive.calls kj4  t102 _ A11.out).mono ?_);rintro e w12 ⟨rfl, hb⟩;refine ⟨_, rfl, ?_⟩;have n0_ := Aside0.mk (blk_below (g := gb101) (o := .cells #[.int .u64 a0_0, .slice A0_1 l0_1.length c0_1] 53 (0, 0)) (by (with_reducible repeat (first|refine blk_drewN ?_ _|refine blk_drew ?_|refine blk_alloc ?_ _));exact BK101.out) hb);have n1_ := Aside0.mk (below_step (by repeat (first|(with_reducible first|exact HB.out|apply below_alloc|apply pw_below_drewN|apply below_drew1|refine below_set ?_ GE101.out)|exact HB.out)) hb);clear BK101;clear HB;have BK101 := n0_;have HB := n1_;clear n0_ n1_;(try clear hb);(try clear hb2);(try clear hk);(try clear hi)))
    go_ret
    exact ⟨by first|rfl|(simp [errW_none, errW_some] <;> rfl)|(simp [*, errW_none, errW_some] <;> rfl), by repeat (first|(with_reducible first|exact HB.out|apply below_alloc|apply pw_below_drewN|apply below_drew1|refine below_set ?_ GE101.out)|exact HB.out)⟩
   ·replace c10 := Bool.eq_false_iff.mpr c10
    subst c10
    have H1 : ((tombolalaw12_columns.f kj4 a0_0 l0_1).bind fun t103 => ((alias_Pick.f kj4 a0_0 l0_1 a1).bind fun bt106 => ((alias_Numbers.f a0_0 l0_1).bind fun bt108 => ((alias_Count.f kj4 a0_0 l0_1 a2).bind fun bt110 => ((tombolaref12_Right.f kj4 a0_0 t103).bind fun t114 => (if t114 = true then ((tombolaref01_Of.f kj4 a0_0).bind fun t117 => ((tombolaref01_Of.f kj4 (IntKind.u64.wrap ((t103.length : Int)))).bind fun t120 => ((tombolaref01_Mul.f kj4 t117 t120).bind fun t123 => ((tombolaref01_Word.f kj4 t123).bind fun bt126 => ((tombolaref12_Count.f kj4 a0_0 t103 a2).bind fun t128 => ((tombolaref01_Back.f kj4 t128).bind fun bt131 => (if bt108.1 = bt126.1 then (if (bt108.2 != bt126.2) = true then (tombolalaw12_AliasPicks.j1 kj4 a1 l3 t103 bt106.1 bt106.2 bt108.1 bt126.2 true a0_0 l0_1) else (if (!(bt110.1 == bt131.1) || (!(bt110.2.1 == bt131.2.1))) = true then (tombolalaw12_AliasPicks.j1 kj4 a1 l3 t103 bt106.1 bt106.2 bt108.1 bt126.2 true a0_0 l0_1) else (tombolalaw12_AliasPicks.j1 kj4 a1 l3 t103 bt106.1 bt106.2 bt108.1 bt126.2 (!bt110.2.2) a0_0 l0_1))) else (tombolalaw12_AliasPicks.j1 kj4 a1 l3 t103 bt106.1 bt106.2 bt108.1 bt126.2 true a0_0 l0_1)))))))) else (if bt106.1 = (-1) then (if bt106.2 = true then (some false) else (if bt108.1 = 0 then (if bt108.2 = true then (some false) else (if (bt110.1 == 0 && (bt110.2.1 == 0)) = true then (if bt110.2.2 = true then (some false) else ((alias_Fair.f kj4 a0_0 l0_1 l3).bind fun t115 => (if t115 = true then (some false) else ((tombolalaw12_alive.f kj4).bind fun t116 => (some t116))))) else (some false))) else (some false))) else (some false)))))))) = some r := by rw [if_neg (show ¬ (false = true) by decide)] at H;exact H
    clear H
    have H := H1
    clear H1
    replace H := Option.bind_eq_some_iff.mp H
    obtain ⟨t103, A130, H⟩ := H
    replace H : ((alias_Pick.f kj4 a0_0 l0_1 a1).bind fun bt106 => ((alias_Numbers.f a0_0 l0_1).bind fun bt108 => ((alias_Count.f kj4 a0_0 l0_1 a2).bind fun bt110 => ((tombolaref12_Right.f kj4 a0_0 t103).bind fun t114 => (if t114 = true then ((tombolaref01_Of.f kj4 a0_0).bind fun t117 => ((tombolaref01_Of.f kj4 (IntKind.u64.wrap ((t103.length : Int)))).bind fun t120 => ((tombolaref01_Mul.f kj4 t117 t120).bind fun t123 => ((tombolaref01_Word.f kj4 t123).bind fun bt126 => ((tombolaref12_Count.f kj4 a0_0 t103 a2).bind fun t128 => ((tombolaref01_Back.f kj4 t128).bind fun bt131 => (if bt108.1 = bt126.1 then (if (bt108.2 != bt126.2) = true then (tombolalaw12_AliasPicks.j1 kj4 a1 l3 t103 bt106.1 bt106.2 bt108.1 bt126.2 true a0_0 l0_1) else (if (!(bt110.1 == bt131.1) || (!(bt110.2.1 == bt131.2.1))) = true then (tombolalaw12_AliasPicks.j1 kj4 a1 l3 t103 bt106.1 bt106.2 bt108.1 bt126.2 true a0_0 l0_1) else (tombolalaw12_AliasPicks.j1 kj4 a1 l3 t103 bt106.1 bt106.2 bt108.1 bt126.2 (!bt110.2.2) a0_0 l0_1))) else (tombolalaw12_AliasPicks.j1 kj4 a1 l3 t103 bt106.1 bt106.2 bt108.1 bt126.2 true a0_0 l0_1)))))))) else (if bt106.1 = (-1) then (if bt106.2 = true then (some false) else (if bt108.1 = 0 then (if bt108.2 = true then (some false) else (if (bt110.1 == 0 && (bt110.2.1 == 0)) = true then (if bt110.2.2 = true then (some false) else ((alias_Fair.f kj4 a0_0 l0_1 l3).bind fun t115 => (if t115 = true then (some false) else ((tombolalaw12_alive.f kj4).bind fun t116 => (some t116))))) else (some false))) else (some false))) else (some false))))))) = some r := H
    have A13 := Aside0.mk A130
    clear A130
    replace H := Option.bind_eq_some_iff.mp H
    obtain ⟨⟨t106, t107⟩, A140, H⟩ := H
    replace H : ((alias_Numbers.f a0_0 l0_1).bind fun bt108 => ((alias_Count.f kj4 a0_0 l0_1 a2).bind fun bt110 => ((tombolaref12_Right.f kj4 a0_0 t103).bind fun t114 => (if t114 = true then ((tombolaref01_Of.f kj4 a0_0).bind fun t117 => ((tombolaref01_Of.f kj4 (IntKind.u64.wrap ((t103.length : Int)))).bind fun t120 => ((tombolaref01_Mul.f kj4 t117 t120).bind fun t123 => ((tombolaref01_Word.f kj4 t123).bind fun bt126 => ((tombolaref12_Count.f kj4 a0_0 t103 a2).bind fun t128 => ((tombolaref01_Back.f kj4 t128).bind fun bt131 => (if bt108.1 = bt126.1 then (if (bt108.2 != bt126.2) = true then (tombolalaw12_AliasPicks.j1 kj4 a1 l3 t103 t106 t107 bt108.1 bt126.2 true a0_0 l0_1) else (if (!(bt110.1 == bt131.1) || (!(bt110.2.1 == bt131.2.1))) = true then (tombolalaw12_AliasPicks.j1 kj4 a1 l3 t103 t106 t107 bt108.1 bt126.2 true a0_0 l0_1) else (tombolalaw12_AliasPicks.j1 kj4 a1 l3 t103 t106 t107 bt108.1 bt126.2 (!bt110.2.2) a0_0 l0_1))) else (tombolalaw12_AliasPicks.j1 kj4 a1 l3 t103 t106 t107 bt108.1 bt126.2 true a0_0 l0_1)))))))) else (if t106 = (-1) then (if t107 = true then (some false) else (if bt108.1 = 0 then (if bt108.2 = true then (some false) else (if (bt110.1 == 0 && (bt110.2.1 == 0)) = true then (if bt110.2.2 = true then (some false) else ((alias_Fair.f kj4 a0_0 l0_1 l3).bind fun t115 => (if t115 = true then (some false) else ((tombolalaw12_alive.f kj4).bind fun t116 => (some t116))))) else (some false))) else (some false))) else (some false)))))) = some r := H
    have A14 := Aside0.mk A140
    clear A140
    replace H := Option.bind_eq_some_iff.mp H
    obtain ⟨⟨t108, t109⟩, A150, H⟩ := H
    replace H : ((alias_Count.f kj4 a0_0 l0_1 a2).bind fun bt110 => ((tombolaref12_Right.f kj4 a0_0 t103).bind fun t114 => (if t114 = true then ((tombolaref01_Of.f kj4 a0_0).bind fun t117 => ((tombolaref01_Of.f kj4 (IntKind.u64.wrap ((t103.length : Int)))).bind fun t120 => ((tombolaref01_Mul.f kj4 t117 t120).bind fun t123 => ((tombolaref01_Word.f kj4 t123).bind fun bt126 => ((tombolaref12_Count.f kj4 a0_0 t103 a2).bind fun t128 => ((tombolaref01_Back.f kj4 t128).bind fun bt131 => (if t108 = bt126.1 then (if (t109 != bt126.2) = true then (tombolalaw12_AliasPicks.j1 kj4 a1 l3 t103 t106 t107 t108 bt126.2 true a0_0 l0_1) else (if (!(bt110.1 == bt131.1) || (!(bt110.2.1 == bt131.2.1))) = true then (tombolalaw12_AliasPicks.j1 kj4 a1 l3 t103 t106 t107 t108 bt126.2 true a0_0 l0_1) else (tombolalaw12_AliasPicks.j1 kj4 a1 l3 t103 t106 t107 t108 bt126.2 (!bt110.2.2) a0_0 l0_1))) else (tombolalaw12_AliasPicks.j1 kj4 a1 l3 t103 t106 t107 t108 bt126.2 true a0_0 l0_1)))))))) else (if t106 = (-1) then (if t107 = true then (some false) else (if t108 = 0 then (if t109 = true then (some false) else (if (bt110.1 == 0 && (bt110.2.1 == 0)) = true then (if bt110.2.2 = true then (some false) else ((alias_Fair.f kj4 a0_0 l0_1 l3).bind fun t115 => (if t115 = true then (some false) else ((tombolalaw12_alive.f kj4).bind fun t116 => (some t116))))) else (some false))) else (some false))) else (some false))))) = some r := H
    have A15 := Aside0.mk A150
    clear A150
    replace H := Option.bind_eq_some_iff.mp H
    obtain ⟨⟨t110, t111, t112⟩, A160, H⟩ := H
    replace H : ((tombolaref12_Right.f kj4 a0_0 t103).bind fun t114 => (if t114 = true then ((tombolaref01_Of.f kj4 a0_0).bind fun t117 => ((tombolaref01_Of.f kj4 (IntKind.u64.wrap ((t103.length : Int)))).bind fun t120 => ((tombolaref01_Mul.f kj4 t117 t120).bind fun t123 => ((tombolaref01_Word.f kj4 t123).bind fun bt126 => ((tombolaref12_Count.f kj4 a0_0 t103 a2).bind fun t128 => ((tombolaref01_Back.f kj4 t128).bind fun bt131 => (if t108 = bt126.1 then (if (t109 != bt126.2) = true then (tombolalaw12_AliasPicks.j1 kj4 a1 l3 t103 t106 t107 t108 bt126.2 true a0_0 l0_1) else (if (!(t110 == bt131.1) || (!(t111 == bt131.2.1))) = true then (tombolalaw12_AliasPicks.j1 kj4 a1 l3 t103 t106 t107 t108 bt126.2 true a0_0 l0_1) else (tombolalaw12_AliasPicks.j1 kj4 a1 l3 t103 t106 t107 t108 bt126.2 (!t112) a0_0 l0_1))) else (tombolalaw12_AliasPicks.j1 kj4 a1 l3 t103 t106 t107 t108 bt126.2 true a0_0 l0_1)))))))) else (if t106 = (-1) then (if t107 = true then (some false) else (if t108 = 0 then (if t109 = true then (some false) else (if (t110 == 0 && (t111 == 0)) = true then (if t112 = true then (some false) else ((alias_Fair.f kj4 a0_0 l0_1 l3).bind fun t115 => (if t115 = true then (some false) else ((tombolalaw12_alive.f kj4).bind fun t116 => (some t116))))) else (some false))) else (some false))) else (some false)))) = some r := H
    have A16 := Aside0.mk A160
    clear A160
    replace H := Option.bind_eq_some_iff.mp H
    obtain ⟨t114, A170, H⟩ := H
    replace H : (if t114 = true then ((tombolaref01_Of.f kj4 a0_0).bind fun t117 => ((tombolaref01_Of.f kj4 (IntKind.u64.wrap ((t103.length : Int)))).bind fun t120 => ((tombolaref01_Mul.f kj4 t117 t120).bind fun t123 => ((tombolaref01_Word.f kj4 t123).bind fun bt126 => ((tombolaref12_Count.f kj4 a0_0 t103 a2).bind fun t128 => ((tombolaref01_Back.f kj4 t128).bind fun bt131 => (if t108 = bt126.1 then (if (t109 != bt126.2) = true then (tombolalaw12_AliasPicks.j1 kj4 a1 l3 t103 t106 t107 t108 bt126.2 true a0_0 l0_1) else (if (!(t110 == bt131.1) || (!(t111 == bt131.2.1))) = true then (tombolalaw12_AliasPicks.j1 kj4 a1 l3 t103 t106 t107 t108 bt126.2 true a0_0 l0_1) else (tombolalaw12_AliasPicks.j1 kj4 a1 l3 t103 t106 t107 t108 bt126.2 (!t112) a0_0 l0_1))) else (tombolalaw12_AliasPicks.j1 kj4 a1 l3 t103 t106 t107 t108 bt126.2 true a0_0 l0_1)))))))) else (if t106 = (-1) then (if t107 = true then (some false) else (if t108 = 0 then (if t109 = true then (some false) else (if (t110 == 0 && (t111 == 0)) = true then (if t112 = true then (some false) else ((alias_Fair.f kj4 a0_0 l0_1 l3).bind fun t115 => (if t115 = true then (some false) else ((tombolalaw12_alive.f kj4).bind fun t116 => (some t116))))) else (some false))) else (some false))) else (some false))) = some r := H
    have A17 := Aside0.mk A170
    clear A170
    by_cases c18 : t114 = true
    ·subst c18
     have H1 : ((tombolaref01_Of.f kj4 a0_0).bind fun t117 => ((tombolaref01_Of.f kj4 (IntKind.u64.wrap ((t103.length : Int)))).bind fun t120 => ((tombolaref01_Mul.f kj4 t117 t120).bind fun t123 => ((tombolaref01_Word.f kj4 t123).bind fun bt126 => ((tombolaref12_Count.f kj4 a0_0 t103 a2).bind fun t128 => ((tombolaref01_Back.f kj4 t128).bind fun bt131 => (if t108 = bt126.1 then (if (t109 != bt126.2) = true then (tombolalaw12_AliasPicks.j1 kj4 a1 l3 t103 t106 t107 t108 bt126.2 true a0_0 l0_1) else (if (!(t110 == bt131.1) || (!(t111 == bt131.2.1))) = true then (tombolalaw12_AliasPicks.j1 kj4 a1 l3 t103 t106 t107 t108 bt126.2 true a0_0 l0_1) else (tombolalaw12_AliasPicks.j1 kj4 a1 l3 t103 t106 t107 t108 bt126.2 (!t112) a0_0 l0_1))) else (tombolalaw12_AliasPicks.j1 kj4 a1 l3 t103 t106 t107 t108 bt126.2 true a0_0 l0_1)))))))) = some r := by rw [if_pos rfl] at H;exact H
     clear H
     have H := H1
     clear H1
     replace H := Option.bind_eq_some_iff.mp H
     obtain ⟨t117, A190, H⟩ := H
     replace H : ((tombolaref01_Of.f kj4 (IntKind.u64.wrap ((t103.length : Int)))).bind fun t120 => ((tombolaref01_Mul.f kj4 t117 t120).bind fun t123 => ((tombolaref01_Word.f kj4 t123).bind fun bt126 => ((tombolaref12_Count.f kj4 a0_0 t103 a2).bind fun t128 => ((tombolaref01_Back.f kj4 t128).bind fun bt131 => (if t108 = bt126.1 then (if (t109 != bt126.2) = true then (tombolalaw12_AliasPicks.j1 kj4 a1 l3 t103 t106 t107 t108 bt126.2 true a0_0 l0_1) else (if (!(t110 == bt131.1) || (!(t111 == bt131.2.1))) = true then (tombolalaw12_AliasPicks.j1 kj4 a1 l3 t103 t106 t107 t108 bt126.2 true a0_0 l0_1) else (tombolalaw12_AliasPicks.j1 kj4 a1 l3 t103 t106 t107 t108 bt126.2 (!t112) a0_0 l0_1))) else (tombolalaw12_AliasPicks.j1 kj4 a1 l3 t103 t106 t107 t108 bt126.2 true a0_0 l0_1))))))) = some r := H
     have A19 := Aside0.mk A190
     clear A190
     replace H := Option.bind_eq_some_iff.mp H
     obtain ⟨t120, A200, H⟩ := H
     replace H : ((tombolaref01_Mul.f kj4 t117 t120).bind fun t123 => ((tombolaref01_Word.f kj4 t123).bind fun bt126 => ((tombolaref12_Count.f kj4 a0_0 t103 a2).bind fun t128 => ((tombolaref01_Back.f kj4 t128).bind fun bt131 => (if t108 = bt126.1 then (if (t109 != bt126.2) = true then (tombolalaw12_AliasPicks.j1 kj4 a1 l3 t103 t106 t107 t108 bt126.2 true a0_0 l0_1) else (if (!(t110 == bt131.1) || (!(t111 == bt131.2.1))) = true then (tombolalaw12_AliasPicks.j1 kj4 a1 l3 t103 t106 t107 t108 bt126.2 true a0_0 l0_1) else (tombolalaw12_AliasPicks.j1 kj4 a1 l3 t103 t106 t107 t108 bt126.2 (!t112) a0_0 l0_1))) else (tombolalaw12_AliasPicks.j1 kj4 a1 l3 t103 t106 t107 t108 bt126.2 true a0_0 l0_1)))))) = some r := H
     have A20 := Aside0.mk A200
     clear A200
     replace H := Option.bind_eq_some_iff.mp H
     obtain ⟨t123, A210, H⟩ := H
     replace H : ((tombolaref01_Word.f kj4 t123).bind fun bt126 => ((tombolaref12_Count.f kj4 a0_0 t103 a2).bind fun t128 => ((tombolaref01_Back.f kj4 t128).bind fun bt131 => (if t108 = bt126.1 then (if (t109 != bt126.2) = true then (tombolalaw12_AliasPicks.j1 kj4 a1 l3 t103 t106 t107 t108 bt126.2 true a0_0 l0_1) else (if (!(t110 == bt131.1) || (!(t111 == bt131.2.1))) = true then (tombolalaw12_AliasPicks.j1 kj4 a1 l3 t103 t106 t107 t108 bt126.2 true a0_0 l0_1) else (tombolalaw12_AliasPicks.j1 kj4 a1 l3 t103 t106 t107 t108 bt126.2 (!t112) a0_0 l0_1))) else (tombolalaw12_AliasPicks.j1 kj4 a1 l3 t103 t106 t107 t108 bt126.2 true a0_0 l0_1))))) = some r := H
     have A21 := Aside0.mk A210
     clear A210
     replace H := Option.bind_eq_some_iff.mp H
     obtain ⟨⟨t126, t127⟩, A220, H⟩ := H
     replace H : ((tombolaref12_Count.f kj4 a0_0 t103 a2).bind fun t128 => ((tombolaref01_Back.f kj4 t128).bind fun bt131 => (if t108 = t126 then (if (t109 != t127) = true then (tombolalaw12_AliasPicks.j1 kj4 a1 l3 t103 t106 t107 t108 t127 true a0_0 l0_1) else (if (!(t110 == bt131.1) || (!(t111 == bt131.2.1))) = true then (tombolalaw12_AliasPicks.j1 kj4 a1 l3 t103 t106 t107 t108 t127 true a0_0 l0_1) else (tombolalaw12_AliasPicks.j1 kj4 a1 l3 t103 t106 t107 t108 t127 (!t112) a0_0 l0_1))) else (tombolalaw12_AliasPicks.j1 kj4 a1 l3 t103 t106 t107 t108 t127 true a0_0 l0_1)))) = some r := H
     have A22 := Aside0.mk A220
     clear A220
     replace H := Option.bind_eq_some_iff.mp H
     obtain ⟨t128, A230, H⟩ := H
     replace H : ((tombolaref01_Back.f kj4 t128).bind fun bt131 => (if t108 = t126 then (if (t109 != t127) = true then (tombolalaw12_AliasPicks.j1 kj4 a1 l3 t103 t106 t107 t108 t127 true a0_0 l0_1) else (if (!(t110 == bt131.1) || (!(t111 == bt131.2.1))) = true then (tombolalaw12_AliasPicks.j1 kj4 a1 l3 t103 t106 t107 t108 t127 true a0_0 l0_1) else (tombolalaw12_AliasPicks.j1 kj4 a1 l3 t103 t106 t107 t108 t127 (!t112) a0_0 l0_1))) else (tombolalaw12_AliasPicks.j1 kj4 a1 l3 t103 t106 t107 t108 t127 true a0_0 l0_1))) = some r := H
     have A23 := Aside0.mk A230
     clear A230
     replace H := Option.bind_eq_some_iff.mp H
     obtain ⟨⟨t131, t132, t133⟩, A240, H⟩ := H
     replace H : (if t108 = t126 then (if (t109 != t127) = true then (tombolalaw12_AliasPicks.j1 kj4 a1 l3 t103 t106 t107 t108 t127 true a0_0 l0_1) else (if (!(t110 == t131) || (!(t111 == t132))) = true then (tombolalaw12_AliasPicks.j1 kj4 a1 l3 t103 t106 t107 t108 t127 true a0_0 l0_1) else (tombolalaw12_AliasPicks.j1 kj4 a1 l3 t103 t106 t107 t108 t127 (!t112) a0_0 l0_1))) else (tombolalaw12_AliasPicks.j1 kj4 a1 l3 t103 t106 t107 t108 t127 true a0_0 l0_1)) = some r := H
     have A24 := Aside0.mk A240
     clear A240
     have HC25 := Aside0.mk H
     clear H
     have hcz26_0 : wc.cell? ⟨gb101, 0, none⟩ = some (.int .u64 a0_0) := (blk_cell BK101.out 0).trans rfl
     have hcz26_1 : wc.cell? ⟨gb101, 1, none⟩ = some (.slice A0_1 l0_1.length c0_1) := (blk_cell BK101.out 1).trans rfl
     have hfz26_0 := blk_frozen BK101.out 0
     have hfz26_1 := blk_frozen BK101.out 1
     go_upto_region 11 with (first|((with_reducible refine gate_callee (f := 27) rfl ?_);refine goesL_ (some 36) rfl rfl Try.func27 (by kernel_rfl) rfl #[.agg #[.int .u64 a0_0, .slice A0_1 l0_1.length c0_1]] rfl (by (try simp only [List.map_toArray, List.map_cons, List.map_nil]);first|done|rfl|(simp only [List.length_drop, List.length_take];rfl)) ?_;(with_reducible refine (tombolalaw12_columns.calls kj4 a0_0 _ _ l0_1 t103 _ ?side1 ?side2 A13.out).mono ?_);(case side1 => repeat (first|exact (Kd.C_below HR0_1.out HB.out)|(with_reducible refine Kd.C_alloc ?_ _)|(with_reducible refine Kd.C_drewN ?_ _)|(with_reducible refine Kd.C_drew ?_)));(case side2 => exact HC0_1.out);rintro e w27 ⟨v104, rfl, ho0, hb⟩;refine ⟨_, rfl, ?_⟩;have n0_ := Aside0.mk (Kd.R_lower ho0 (below_size (by repeat (first|(with_reducible first|exact HB.out|apply below_alloc|apply pw_below_drewN|apply below_drew1|refine below_set ?_ GE101.out)|exact HB.out))));have n1_ := Aside0.mk (blk_below (g := gb101) (o := .cells #[.int .u64 a0_0, .slice A0_1 l0_1.length c0_1] 53 (0, 0)) (by (with_reducible repeat (first|refine blk_drewN ?_ _|refine blk_drew ?_|refine blk_alloc ?_ _));exact BK101.out) hb);have n2_ := Aside0.mk (below_step (by repeat (first|(with_reducible first|exact HB.out|apply below_alloc|apply pw_below_drewN|apply below_drew1|refine below_set ?_ GE101.out)|exact HB.out)) hb);clear BK101;clear HB;have HO105 := n0_;have BK101 := n1_;have HB := n2_;clear n0_ n1_ n2_;(try clear hb);(try clear hb2);(try clear hk);(try clear hi);(try clear ho0);have hcz28_0 : w27.cell? ⟨gb101, 0, none⟩ = some (.int .u64 a0_0) := (blk_cell BK101.out 0).trans rfl;have hcz28_1 : w27.cell? ⟨gb101, 1, none⟩ = some (.slice A0_1 l0_1.length c0_1) := (blk_cell BK101.out 1).trans rfl;have hfz28_0 := blk_frozen BK101.out 0;have hfz28_1 := blk_frozen BK101.out 1)|((with_reducible refine gate_callee (f := 28) rfl ?_);refine goesL_ (some 40) rfl rfl Try.func28 (by kernel_rfl) rfl #[.agg #[.int .u64 a0_0, .slice A0_1 l0_1.length c0_1], .int .u64 a1] rfl (by (try simp only [List.map_toArray, List.map_cons, List.map_nil]);first|done|rfl|(simp only [List.length_drop, List.length_take];rfl)) ?_;(with_reducible refine (alias_Pick.calls kj4 a0_0 _ _ l0_1 a1 t106 t107 _ ?side1 ?side2 A14.out).mono ?_);(case side1 => repeat (first|exact (Kd.C_below HR0_1.out HB.out)|(with_reducible refine Kd.C_alloc ?_ _)|(with_reducible refine Kd.C_drewN ?_ _)|(with_reducible refine Kd.C_drew ?_)));(case side2 => exact HC0_1.out);rintro e w29 ⟨rfl, hb⟩;refine ⟨_, rfl, ?_⟩;have n0_ := Aside0.mk (Kd.R_below (by (with_reducible repeat (first|apply Kd.R_alloc|apply Kd.R_drewN|apply Kd.R_drew));exact HO105.out) hb);have n1_ := Aside0.mk (blk_below (g := gb101) (o := .cells #[.int .u64 a0_0, .slice A0_1 l0_1.length c0_1] 53 (0, 0)) (by (with_reducible repeat (first|refine blk_drewN ?_ _|refine blk_drew ?_|refine blk_alloc ?_ _));exact BK101.out) hb);have n2_ := Aside0.mk (below_step (by repeat (first|(with_reducible first|exact HB.out|apply below_alloc|apply pw_below_drewN|apply below_drew1|refine below_set ?_ GE101.out)|exact HB.out)) hb);clear HO105;clear BK101;clear HB;have HO105 := n0_;have BK101 := n1_;have HB := n2_;clear n0_ n1_ n2_;(try clear hb);(try clear hb2);(try clear hk);(try clear hi);have hcz30_0 : w29.cell? ⟨gb101, 0, none⟩ = some (.int .u64 a0_0) := (blk_cell BK101.out 0).trans rfl;have hcz30_1 : w29.cell? ⟨gb101, 1, none⟩ = some (.slice A0_1 l0_1.length c0_1) := (blk_cell BK101.out 1).trans rfl;have hfz30_0 := blk_frozen BK101.out 0;have hfz30_1 := blk_frozen BK101.out 1)|((with_reducible refine gate_callee (f := 29) rfl ?_);refine goesL_ (some 45) rfl rfl Try.func29 (by kernel_rfl) rfl #[.agg #[.int .u64 a0_0, .slice A0_1 l0_1.length c0_1]] rfl (by (try simp only [List.map_toArray, List.map_cons, List.map_nil]);first|done|rfl|(simp only [List.length_drop, List.length_take];rfl)) ?_;(with_reducible refine (alias_Numbers.calls a0_0 _ _ l0_1 t108 t109 _ ?side1 ?side2 A15.out).mono ?_);(case side1 => repeat (first|exact (Kd.C_below HR0_1.out HB.out)|(with_reducible refine Kd.C_alloc ?_ _)|(with_reducible refine Kd.C_drewN ?_ _)|(with_reducible refine Kd.C_drew ?_)));(case side2 => exact HC0_1.out);rintro e w31 ⟨rfl, hb⟩;refine ⟨_, rfl, ?_⟩;have n0_ := Aside0.mk (Kd.R_below (by (with_reducible repeat (first|apply Kd.R_alloc|apply Kd.R_drewN|apply Kd.R_drew));exact HO105.out) hb);have n1_ := Aside0.mk (blk_below (g := gb101) (o := .cells #[.int .u64 a0_0, .slice A0_1 l0_1.length c0_1] 53 (0, 0)) (by (with_reducible repeat (first|refine blk_drewN ?_ _|refine blk_drew ?_|refine blk_alloc ?_ _));exact BK101.out) hb);have n2_ := Aside0.mk (below_step (by repeat (first|(with_reducible first|exact HB.out|apply below_alloc|apply pw_below_drewN|apply below_drew1|refine below_set ?_ GE101.out)|exact HB.out)) hb);clear HO105;clear BK101;clear HB;have HO105 := n0_;have BK101 := n1_;have HB := n2_;clear n0_ n1_ n2_;(try clear hb);(try clear hb2);(try clear hk);(try clear hi);have hcz32_0 : w31.cell? ⟨gb101, 0, none⟩ = some (.int .u64 a0_0) := (blk_cell BK101.out 0).trans rfl;have hcz32_1 : w31.cell? ⟨gb101, 1, none⟩ = some (.slice A0_1 l0_1.length c0_1) := (blk_cell BK101.out 1).trans rfl;have hfz32_0 := blk_frozen BK101.out 0;have hfz32_1 := blk_frozen BK101.out 1)|((with_reducible refine gate_callee (f := 30) rfl ?_);refine goesL_ (some 51) rfl rfl Try.func30 (by kernel_rfl) rfl #[.agg #[.int .u64 a0_0, .slice A0_1 l0_1.length c0_1], .int .i64 a2] rfl (by (try simp only [List.map_toArray, List.map_cons, List.map_nil]);first|done|rfl|(simp only [List.length_drop, List.length_take];rfl)) ?_;(with_reducible refine (alias_Count.calls kj4 a0_0 _ _ l0_1 a2 t110 t111 t112 _ ?side1 ?side2 A16.out).mono ?_);(case side1 => repeat (first|exact (Kd.C_below HR0_1.out HB.out)|(with_reducible refine Kd.C_alloc ?_ _)|(with_reducible refine Kd.C_drewN ?_ _)|(with_reducible refine Kd.C_drew ?_)));(case side2 => exact HC0_1.out);rintro e w33 ⟨rfl, hb⟩;refine ⟨_, rfl, ?_⟩;have n0_ := Aside0.mk (Kd.R_below (by (with_reducible repeat (first|apply Kd.R_alloc|apply Kd.R_drewN|apply Kd.R_drew));exact HO105.out) hb);have n1_ := Aside0.mk (blk_below (g := gb101) (o := .cells #[.int .u64 a0_0, .slice A0_1 l0_1.length c0_1] 53 (0, 0)) (by (with_reducible repeat (first|refine blk_drewN ?_ _|refine blk_drew ?_|refine blk_alloc ?_ _));exact BK101.out) hb);have n2_ := Aside0.mk (below_step (by repeat (first|(with_reducible first|exact HB.out|apply below_alloc|apply pw_below_drewN|apply below_drew1|refine below_set ?_ GE101.out)|exact HB.out)) hb);clear HO105;clear BK101;clear HB;have HO105 := n0_;have BK101 := n1_;have HB := n2_;clear n0_ n1_ n2_;(try clear hb);(try clear hb2);(try clear hk);(try clear hi))|((with_reducible refine gate_dst (N := 14) rfl ?_);(try (refine gate_guard (by rfl) ?_;dsimp only));refine box_event ?hg (N := 14) ?hd (cs := #[.int .u64 0, .int .u64 0]) (t := 26) ?hr ?_;(case hd => rfl);(case hg => rfl);(case hr => first|(go_simp;done)|(go_simp;rfl));intro gb113 hg w34 hbox hb;have n0_ := Aside0.mk (Kd.R_below (by (with_reducible repeat (first|apply Kd.R_alloc|apply Kd.R_drewN|apply Kd.R_drew));exact HO105.out) hb);have n1_ := Aside0.mk (blk_below (g := gb101) (o := .cells #[.int .u64 a0_0, .slice A0_1 l0_1.length c0_1] 53 (0, 0)) (by (with_reducible repeat (first|refine blk_drewN ?_ _|refine blk_drew ?_|refine blk_alloc ?_ _));exact BK101.out) hb);have n2_ := Aside0.mk (below_step (by repeat (first|(with_reducible first|exact HB.out|apply below_alloc|apply pw_below_drewN|apply below_drew1|refine below_set ?_ GE101.out)|exact HB.out)) hb);have n3_ := Aside0.mk (hbox);have n4_ := Aside0.mk ((by rw [hg];exact (below_size (by repeat (first|(with_reducible first|exact HB.out|apply below_alloc|apply pw_below_drewN|apply below_drew1|refine below_set ?_ GE101.out)|exact HB.out))) : w.heap.size ≤ gb113));have n5_ := Aside0.mk ((by rw [hg];exact (below_size (by repeat (first|(with_reducible first|exact HB.out|apply below_alloc|apply pw_below_drewN|apply below_drew1|refine below_set ?_ GE101.out)|exact HB.out))) : w.heap.size ≤ gb113));have n6_ := Aside0.mk ((by rw [hg];exact Nat.ne_of_lt (blk_lt (g := gb101) (o := .cells #[.int .u64 a0_0, .slice A0_1 l0_1.length c0_1] 53 (0, 0)) (by (with_reducible repeat (first|refine blk_drewN ?_ _|refine blk_drew ?_|refine blk_alloc ?_ _));exact BK101.out)) : gb101 ≠ gb113));have n7_ := Aside0.mk ((by rw [hg];exact Nat.ne_of_gt (blk_lt (g := gb101) (o := .cells #[.int .u64 a0_0, .slice A0_1 l0_1.length c0_1] 53 (0, 0)) (by (with_reducible repeat (first|refine blk_drewN ?_ _|refine blk_drew ?_|refine blk_alloc ?_ _));exact BK101.out)) : gb113 ≠ gb101));clear HO105;clear BK101;clear HB;have HO105 := n0_;have BK101 := n1_;have HB := n2_;have BK113 := n3_;have GW113 := n4_;have GE113 := n5_;have NB101_113 := n6_;have NB113_101 := n7_;clear n0_ n1_ n2_ n3_ n4_ n5_ n6_ n7_;clear hb hbox hg;have hnb35 := NB113_101.out;have hnc35 := NB101_113.out;have hcz36_0 : w34.cell? ⟨gb113, 0, none⟩ = some (.int .u64 0) := (blk_cell BK113.out 0).trans rfl;have hcz36_1 : w34.cell? ⟨gb113, 1, none⟩ = some (.int .u64 0) := (blk_cell BK113.out 1).trans rfl;have hfz36_0 := blk_frozen BK113.out 0;have hfz36_1 := blk_frozen BK113.out 1;have hcz37_0 : w34.cell? ⟨gb101, 0, none⟩ = some (.int .u64 a0_0) := (blk_cell BK101.out 0).trans rfl;have hcz37_1 : w34.cell? ⟨gb101, 1, none⟩ = some (.slice A0_1 l0_1.length c0_1) := (blk_cell BK101.out 1).trans rfl;have hfz37_0 := blk_frozen BK101.out 0;have hfz37_1 := blk_frozen BK101.out 1;obtain ⟨Ao38, co38, eo38⟩ := Kd.R_slice HO105.out;subst eo38)|((with_reducible refine gate_callee (f := 31) rfl ?_);refine goesL_ (some 57) rfl rfl Try.func31 (by kernel_rfl) rfl #[.int .u64 a0_0, .slice Ao38 t103.length co38] rfl (by (try simp only [List.map_toArray, List.map_cons, List.map_nil]);first|done|rfl|(simp only [List.length_drop, List.length_take];rfl)) ?_;(with_reducible refine (tombolaref12_Right.calls kj4 a0_0 _ _ t103 true _ ?side1 ?side2 A17.out).mono ?_);(case side1 => refine (Kd.R_reads' (e := 66) (base := w.heap.size) (ok := fun k_ => True) (n := t103.length) (c := co38) ?_).2.2;exact (by (with_reducible repeat (first|apply Kd.R_alloc|apply Kd.R_drewN|apply Kd.R_drew));exact (Kd.R_mono (Kd.R_far (p := ⟨gb113, 1, none⟩) (Kd.R_far (p := ⟨gb113, 0, none⟩) (Kd.R_types HO105.out BK113.out (by decide)) (fun _ hk => hk.2) (.int .u64 t110)) (fun _ hk => hk.2) (.int .u64 t111)) (fun _ h_ => h_.1))));(case side2 => exact (Kd.R_reads' HO105.out).2.1);rintro e w' ⟨rfl, ⟨nd, rfl⟩⟩;refine ⟨_, rfl, ?_⟩)|((with_reducible refine gate_callee (f := 35) rfl ?_);refine goesL_ (some 94) rfl rfl Try.func35 (by kernel_rfl) rfl #[.int .u64 a0_0] rfl (by (try simp only [List.map_toArray, List.map_cons, List.map_nil]);first|done|rfl|(simp only [List.length_drop, List.length_take];rfl)) ?_;(with_reducible refine (tombolaref01_Of.calls kj4 a0_0 t117 _ A19.out).mono ?_);rintro e w39 ⟨v118, rfl, ho0, hb⟩;refine ⟨_, rfl, ?_⟩;have n0_ := Aside0.mk (Kd.R_below (by (with_reducible repeat (first|apply Kd.R_alloc|apply Kd.R_drewN|apply Kd.R_drew));exact (Kd.R_mono (Kd.R_far (p := ⟨gb113, 1, none⟩) (Kd.R_far (p := ⟨gb113, 0, none⟩) (Kd.R_types HO105.out BK113.out (by decide)) (fun _ hk => hk.2) (.int .u64 t110)) (fun _ hk => hk.2) (.int .u64 t111)) (fun _ h_ => h_.1))) hb);have n1_ := Aside0.mk (Kd.R_lower ho0 (below_size (by repeat (first|(with_reducible first|exact HB.out|apply below_alloc|apply pw_below_drewN|apply below_drew1|refine below_set ?_ GE101.out|refine below_set ?_ GE113.out)|exact HB.out))));have n2_ := Aside0.mk (blk_below (g := gb101) (o := .cells #[.int .u64 a0_0, .slice A0_1 l0_1.length c0_1] 53 (0, 0)) (by (with_reducible repeat (first|refine blk_drewN ?_ _|refine blk_drew ?_|refine blk_alloc ?_ _));refine blk_far ?_ NB101_113.out _;(with_reducible repeat (first|refine blk_drewN ?_ _|refine blk_drew ?_|refine blk_alloc ?_ _));refine blk_far ?_ NB101_113.out _;(with_reducible repeat (first|refine blk_drewN ?_ _|refine blk_drew ?_|refine blk_alloc ?_ _));exact BK101.out) hb);have n3_ := Aside0.mk (blk_below (g := gb113) (o := .cells #[.int .u64 t110, .int .u64 t111] 26 (0, 0)) (by (with_reducible repeat (first|refine blk_drewN ?_ _|refine blk_drew ?_|refine blk_alloc ?_ _));refine blk_put (cs := #[.int .u64 t110, .int .u64 0]) ?_ 1 _ rfl;(with_reducible repeat (first|refine blk_drewN ?_ _|refine blk_drew ?_|refine blk_alloc ?_ _));refine blk_put (cs := #[.int .u64 0, .int .u64 0]) ?_ 0 _ rfl;(with_reducible repeat (first|refine blk_drewN ?_ _|refine blk_drew ?_|refine blk_alloc ?_ _));exact BK113.out) hb);have n4_ := Aside0.mk (below_step (by repeat (first|(with_reducible first|exact HB.out|apply below_alloc|apply pw_below_drewN|apply below_drew1|refine below_set ?_ GE101.out|refine below_set ?_ GE113.out)|exact HB.out)) hb);clear HO105;clear BK101;clear BK113;clear HB;have HO105 := n0_;have HO119 := n1_;have BK101 := n2_;have BK113 := n3_;have HB := n4_;clear n0_ n1_ n2_ n3_ n4_;(try clear hb);(try clear hb2);(try clear hk);(try clear hi);(try clear ho0))|((with_reducible refine gate_callee (f := 35) rfl ?_);refine goesL_ (some 98) rfl rfl Try.func35 (by kernel_rfl) rfl #[.int .u64 (IntKind.u64.wrap ((t103.length : Int)))] rfl (by (try simp only [List.map_toArray, List.map_cons, List.map_nil]);first|done|rfl|(simp only [List.length_drop, List.length_take];rfl)) ?_;(with_reducible refine (tombolaref01_Of.calls kj4 (IntKind.u64.wrap ((t103.length : Int))) t120 _ A20.out).mono ?_);rintro e w40 ⟨v121, rfl, ho0, hb⟩;refine ⟨_, rfl, ?_⟩;have n0_ := Aside0.mk (Kd.R_below (by (with_reducible repeat (first|apply Kd.R_alloc|apply Kd.R_drewN|apply Kd.R_drew));exact HO105.out) hb);have n1_ := Aside0.mk (Kd.R_elder' (by (with_reducible repeat (first|apply Kd.R_alloc|apply Kd.R_drewN|apply Kd.R_drew));exact HO119.out) (Kd.R_base ho0) hb);have n2_ := Aside0.mk (Kd.R_lower (Kd.R_new' ho0 (Kd.R_lt (by (with_reducible repeat (first|apply Kd.R_alloc|apply Kd.R_drewN|apply Kd.R_drew));exact HO119.out))) (below_size (by repeat (first|(with_reducible first|exact HB.out|apply below_alloc|apply pw_below_drewN|apply below_drew1|refine below_set ?_ GE101.out|refine below_set ?_ GE113.out)|exact HB.out))));have n3_ := Aside0.mk (blk_below (g := gb101) (o := .cells #[.int .u64 a0_0, .slice A0_1 l0_1.length c0_1] 53 (0, 0)) (by (with_reducible repeat (first|refine blk_drewN ?_ _|refine blk_drew ?_|refine blk_alloc ?_ _));exact BK101.out) hb);have n4_ := Aside0.mk (blk_below (g := gb113) (o := .cells #[.int .u64 t110, .int .u64 t111] 26 (0, 0)) (by (with_reducible repeat (first|refine blk_drewN ?_ _|refine blk_drew ?_|refine blk_alloc ?_ _));exact BK113.out) hb);have n5_ := Aside0.mk (below_step (by repeat (first|(with_reducible first|exact HB.out|apply below_alloc|apply pw_below_drewN|apply below_drew1|refine below_set ?_ GE101.out|refine below_set ?_ GE113.out)|exact HB.out)) hb);clear HO105;clear HO119;clear BK101;clear BK113;clear HB;have HO105 := n0_;have HO119 := n1_;have HO122 := n2_;have BK101 := n3_;have BK113 := n4_;have HB := n5_;clear n0_ n1_ n2_ n3_ n4_ n5_;(try clear hb);(try clear hb2);(try clear hk);(try clear hi);(try clear ho0);obtain ⟨Ao41, co41, eo41⟩ := Kd.R_slice HO119.out;subst eo41;obtain ⟨Ao42, co42, eo42⟩ := Kd.R_slice HO122.out;subst eo42)|((with_reducible refine gate_callee (f := 34) rfl ?_);refine goesL_ (some 99) rfl rfl Try.func34 (by kernel_rfl) rfl #[.agg #[.slice Ao41 t117.length co41], .agg #[.slice Ao42 t120.length co42]] rfl (by (try simp only [List.map_toArray, List.map_cons, List.map_nil]);first|done|rfl|(simp only [List.length_drop, List.length_take];rfl)) ?_;(with_reducible refine (tombolaref01_Mul.calls kj4 _ _ t117 _ _ t120 t123 _ ?side1 ?side2 ?side3 ?side4 A21.out).mono ?_);(case side1 => repeat (first|exact (Kd.R_reads' HO119.out).2.2|(with_reducible refine Kd.C_alloc ?_ _)|(with_reducible refine Kd.C_drewN ?_ _)|(with_reducible refine Kd.C_drew ?_)));(case side2 => exact (Kd.R_reads' HO119.out).2.1);(case side3 => repeat (first|exact (Kd.R_reads' HO122.out).2.2|(with_reducible refine Kd.C_alloc ?_ _)|(with_reducible refine Kd.C_drewN ?_ _)|(with_reducible refine Kd.C_drew ?_)));(case side4 => exact (Kd.R_reads' HO122.out).2.1);rintro e w43 ⟨v124, rfl, ho0, hb⟩;refine ⟨_, rfl, ?_⟩;have n0_ := Aside0.mk (Kd.R_below (by (with_reducible repeat (first|apply Kd.R_alloc|apply Kd.R_drewN|apply Kd.R_drew));exact HO105.out) hb);have n1_ := Aside0.mk (Kd.R_elder' (by (with_reducible repeat (first|apply Kd.R_alloc|apply Kd.R_drewN|apply Kd.R_drew));exact HO119.out) (Kd.R_base ho0) hb);have n2_ := Aside0.mk (Kd.R_elder' (by (with_reducible repeat (first|apply Kd.R_alloc|apply Kd.R_drewN|apply Kd.R_drew));exact HO122.out) (Kd.R_base ho0) hb);have n3_ := Aside0.mk (Kd.R_lower (Kd.R_new' (Kd.R_new' ho0 (Kd.R_lt (by (with_reducible repeat (first|apply Kd.R_alloc|apply Kd.R_drewN|apply Kd.R_drew));exact HO119.out))) (Kd.R_lt (by (with_reducible repeat (first|apply Kd.R_alloc|apply Kd.R_drewN|apply Kd.R_drew));exact HO122.out))) (below_size (by repeat (first|(with_reducible first|exact HB.out|apply below_alloc|apply pw_below_drewN|apply below_drew1|refine below_set ?_ GE101.out|refine below_set ?_ GE113.out)|exact HB.out))));have n4_ := Aside0.mk (blk_below (g := gb101) (o := .cells #[.int .u64 a0_0, .slice A0_1 l0_1.length c0_1] 53 (0, 0)) (by (with_reducible repeat (first|refine blk_drewN ?_ _|refine blk_drew ?_|refine blk_alloc ?_ _));exact BK101.out) hb);have n5_ := Aside0.mk (blk_below (g := gb113) (o := .cells #[.int .u64 t110, .int .u64 t111] 26 (0, 0)) (by (with_reducible repeat (first|refine blk_drewN ?_ _|refine blk_drew ?_|refine blk_alloc ?_ _));exact BK113.out) hb);have n6_ := Aside0.mk (below_step (by repeat (first|(with_reducible first|exact HB.out|apply below_alloc|apply pw_below_drewN|apply below_drew1|refine below_set ?_ GE101.out|refine below_set ?_ GE113.out)|exact HB.out)) hb);clear HO105;clear HO119;clear HO122;clear BK101;clear BK113;clear HB;have HO105 := n0_;have HO119 := n1_;have HO122 := n2_;have HO125 := n3_;have BK101 := n4_;have BK113 := n5_;have HB := n6_;clear n0_ n1_ n2_ n3_ n4_ n5_ n6_;(try clear hb);(try clear hb2);(try clear hk);(try clear hi);(try clear ho0);obtain ⟨Ao44, co44, eo44⟩ := Kd.R_slice HO125.out;subst eo44)|((with_reducible refine gate_callee (f := 33) rfl ?_);refine goesL_ (some 100) rfl rfl Try.func33 (by kernel_rfl) rfl #[.agg #[.slice Ao44 t123.length co44]] rfl (by (try simp only [List.map_toArray, List.map_cons, List.map_nil]);first|done|rfl|(simp only [List.length_drop, List.length_take];rfl)) ?_;(with_reducible refine (tombolaref01_Word.calls kj4 _ _ t123 t126 t127 _ ?side1 ?side2 A22.out).mono ?_);(case side1 => repeat (first|exact (Kd.R_reads' HO125.out).2.2|(with_reducible refine Kd.C_alloc ?_ _)|(with_reducible refine Kd.C_drewN ?_ _)|(with_reducible refine Kd.C_drew ?_)));(case side2 => exact (Kd.R_reads' HO125.out).2.1);rintro e w45 ⟨rfl, hb⟩;refine ⟨_, rfl, ?_⟩;have n0_ := Aside0.mk (Kd.R_below (by (with_reducible repeat (first|apply Kd.R_alloc|apply Kd.R_drewN|apply Kd.R_drew));exact HO105.out) hb);have n1_ := Aside0.mk (Kd.R_below (by (with_reducible repeat (first|apply Kd.R_alloc|apply Kd.R_drewN|apply Kd.R_drew));exact HO119.out) hb);have n2_ := Aside0.mk (Kd.R_below (by (with_reducible repeat (first|apply Kd.R_alloc|apply Kd.R_drewN|apply Kd.R_drew));exact HO122.out) hb);have n3_ := Aside0.mk (Kd.R_below (by (with_reducible repeat (first|apply Kd.R_alloc|apply Kd.R_drewN|apply Kd.R_drew));exact HO125.out) hb);have n4_ := Aside0.mk (blk_below (g := gb101) (o := .cells #[.int .u64 a0_0, .slice A0_1 l0_1.length c0_1] 53 (0, 0)) (by (with_reducible repeat (first|refine blk_drewN ?_ _|refine blk_drew ?_|refine blk_alloc ?_ _));exact BK101.out) hb);have n5_ := Aside0.mk (blk_below (g := gb113) (o := .cells #[.int .u64 t110, .int .u64 t111] 26 (0, 0)) (by (with_reducible repeat (first|refine blk_drewN ?_ _|refine blk_drew ?_|refine blk_alloc ?_ _));exact BK113.out) hb);have n6_ := Aside0.mk (below_step (by repeat (first|(with_reducible first|exact HB.out|apply below_alloc|apply pw_below_drewN|apply below_drew1|refine below_set ?_ GE101.out|refine below_set ?_ GE113.out)|exact HB.out)) hb);clear HO105;clear HO119;clear HO122;clear HO125;clear BK101;clear BK113;clear HB;have HO105 := n0_;have HO119 := n1_;have HO122 := n2_;have HO125 := n3_;have BK101 := n4_;have BK113 := n5_;have HB := n6_;clear n0_ n1_ n2_ n3_ n4_ n5_ n6_;(try clear hb);(try clear hb2);(try clear hk);(try clear hi);have hcz46_0 : w45.cell? ⟨gb101, 0, none⟩ = some (.int .u64 a0_0) := (blk_cell BK101.out 0).trans rfl;have hcz46_1 : w45.cell? ⟨gb101, 1, none⟩ = some (.slice A0_1 l0_1.length c0_1) := (blk_cell BK101.out 1).trans rfl;have hfz46_0 := blk_frozen BK101.out 0;have hfz46_1 := blk_frozen BK101.out 1)|((with_reducible refine gate_callee (f := 36) rfl ?_);refine goesL_ (some 108) rfl rfl Try.func36 (by kernel_rfl) rfl #[.int .u64 a0_0, .slice Ao38 t103.length co38, .int .i64 a2] rfl (by (try simp only [List.map_toArray, List.map_cons, List.map_nil]);first|done|rfl|(simp only [List.length_drop, List.length_take];rfl)) ?_;(with_reducible refine (tombolaref12_Count.calls kj4 a0_0 _ _ t103 a2 t128 _ ?side1 ?side2 A23.out).mono ?_);(case side1 => repeat (first|exact (Kd.R_reads' HO105.out).2.2|(with_reducible refine Kd.C_alloc ?_ _)|(with_reducible refine Kd.C_drewN ?_ _)|(with_reducible refine Kd.C_drew ?_)));(case side2 => exact (Kd.R_reads' HO105.out).2.1);rintro e w47 ⟨v129, rfl, ho0, hb⟩;refine ⟨_, rfl, ?_⟩;have n0_ := Aside0.mk (Kd.R_below (by (with_reducible repeat (first|apply Kd.R_alloc|apply Kd.R_drewN|apply Kd.R_drew));exact HO105.out) hb);have n1_ := Aside0.mk (Kd.R_elder' (by (with_reducible repeat (first|apply Kd.R_alloc|apply Kd.R_drewN|apply Kd.R_drew));exact HO119.out) (Kd.R_base ho0) hb);have n2_ := Aside0.mk (Kd.R_elder' (by (with_reducible repeat (first|apply Kd.R_alloc|apply Kd.R_drewN|apply Kd.R_drew));exact HO122.out) (Kd.R_base ho0) hb);have n3_ := Aside0.mk (Kd.R_elder' (by (with_reducible repeat (first|apply Kd.R_alloc|apply Kd.R_drewN|apply Kd.R_drew));exact HO125.out) (Kd.R_base ho0) hb);have n4_ := Aside0.mk (Kd.R_lower (Kd.R_new' (Kd.R_new' (Kd.R_new' ho0 (Kd.R_lt (by (with_reducible repeat (first|apply Kd.R_alloc|apply Kd.R_drewN|apply Kd.R_drew));exact HO119.out))) (Kd.R_lt (by (with_reducible repeat (first|apply Kd.R_alloc|apply Kd.R_drewN|apply Kd.R_drew));exact HO122.out))) (Kd.R_lt (by (with_reducible repeat (first|apply Kd.R_alloc|apply Kd.R_drewN|apply Kd.R_drew));exact HO125.out))) (below_size (by repeat (first|(with_reducible first|exact HB.out|apply below_alloc|apply pw_below_drewN|apply below_drew1|refine below_set ?_ GE101.out|refine below_set ?_ GE113.out)|exact HB.out))));have n5_ := Aside0.mk (blk_below (g := gb101) (o := .cells #[.int .u64 a0_0, .slice A0_1 l0_1.length c0_1] 53 (0, 0)) (by (with_reducible repeat (first|refine blk_drewN ?_ _|refine blk_drew ?_|refine blk_alloc ?_ _));exact BK101.out) hb);have n6_ := Aside0.mk (blk_below (g := gb113) (o := .cells #[.int .u64 t110, .int .u64 t111] 26 (0, 0)) (by (with_reducible repeat (first|refine blk_drewN ?_ _|refine blk_drew ?_|refine blk_alloc ?_ _));exact BK113.out) hb);have n7_ := Aside0.mk (below_step (by repeat (first|(with_reducible first|exact HB.out|apply below_alloc|apply pw_below_drewN|apply below_drew1|refine below_set ?_ GE101.out|refine below_set ?_ GE113.out)|exact HB.out)) hb);clear HO105;clear HO119;clear HO122;clear HO125;clear BK101;clear BK113;clear HB;have HO105 := n0_;have HO119 := n1_;have HO122 := n2_;have HO125 := n3_;have HO130 := n4_;have BK101 := n5_;have BK113 := n6_;have HB := n7_;clear n0_ n1_ n2_ n3_ n4_ n5_ n6_ n7_;(try clear hb);(try clear hb2);(try clear hk);(try clear hi);(try clear ho0);obtain ⟨Ao48, co48, eo48⟩ := Kd.R_slice HO130.out;subst eo48)|((with_reducible refine gate_callee (f := 12) rfl ?_);refine goesL_ (some 109) rfl rfl Try.func12 (by kernel_rfl) rfl #[.agg #[.slice Ao48 t128.length co48]] rfl (by (try simp only [List.map_toArray, List.map_cons, List.map_nil]);first|done|rfl|(simp only [List.length_drop, List.length_take];rfl)) ?_;(with_reducible refine (tombolaref01_Back.calls kj4 _ _ t128 t131 t132 t133 _ ?side1 ?side2 A24.out).mono ?_);(case side1 => repeat (first|exact (Kd.R_reads' HO130.out).2.2|(with_reducible refine Kd.C_alloc ?_ _)|(with_reducible refine Kd.C_drewN ?_ _)|(with_reducible refine Kd.C_drew ?_)));(case side2 => exact (Kd.R_reads' HO130.out).2.1);rintro e w49 ⟨rfl, hb⟩;refine ⟨_, rfl, ?_⟩;have n0_ := Aside0.mk (Kd.R_below (by (with_reducible repeat (first|apply Kd.R_alloc|apply Kd.R_drewN|apply Kd.R_drew));exact HO105.out) hb);have n1_ := Aside0.mk (Kd.R_below (by (with_reducible repeat (first|apply Kd.R_alloc|apply Kd.R_drewN|apply Kd.R_drew));exact HO119.out) hb);have n2_ := Aside0.mk (Kd.R_below (by (with_reducible repeat (first|apply Kd.R_alloc|apply Kd.R_drewN|apply Kd.R_drew));exact HO122.out) hb);have n3_ := Aside0.mk (Kd.R_below (by (with_reducible repeat (first|apply Kd.R_alloc|apply Kd.R_drewN|apply Kd.R_drew));exact HO125.out) hb);have n4_ := Aside0.mk (Kd.R_below (by (with_reducible repeat (first|apply Kd.R_alloc|apply Kd.R_drewN|apply Kd.R_drew));exact HO130.out) hb);have n5_ := Aside0.mk (blk_below (g := gb101) (o := .cells #[.int .u64 a0_0, .slice A0_1 l0_1.length c0_1] 53 (0, 0)) (by (with_reducible repeat (first|refine blk_drewN ?_ _|refine blk_drew ?_|refine blk_alloc ?_ _));exact BK101.out) hb);have n6_ := Aside0.mk (blk_below (g := gb113) (o := .cells #[.int .u64 t110, .int .u64 t111] 26 (0, 0)) (by (with_reducible repeat (first|refine blk_drewN ?_ _|refine blk_drew ?_|refine blk_alloc ?_ _));exact BK113.out) hb);have n7_ := Aside0.mk (below_step (by repeat (first|(with_reducible first|exact HB.out|apply below_alloc|apply pw_below_drewN|apply below_drew1|refine below_set ?_ GE101.out|refine below_set ?_ GE113.out)|exact HB.out)) hb);clear HO105;clear HO119;clear HO122;clear HO125;clear HO130;clear BK101;clear BK113;clear HB;have HO105 := n0_;have HO119 := n1_;have HO122 := n2_;have HO125 := n3_;have HO130 := n4_;have BK101 := n5_;have BK113 := n6_;have HB := n7_;clear n0_ n1_ n2_ n3_ n4_ n5_ n6_ n7_;(try clear hb);(try clear hb2);(try clear hk);(try clear hi))|((with_reducible refine gate_dst (N := 18) rfl ?_);(try (refine gate_guard (by rfl) ?_;dsimp only));refine box_event ?hg (N := 18) ?hd (cs := #[.int .u64 0, .int .u64 0]) (t := 26) ?hr ?_;(case hd => rfl);(case hg => rfl);(case hr => first|(go_simp;done)|(go_simp;rfl));intro gb134 hg w50 hbox hb;have n0_ := Aside0.mk (Kd.R_below (by (with_reducible repeat (first|apply Kd.R_alloc|apply Kd.R_drewN|apply Kd.R_drew));exact HO105.out) hb);have n1_ := Aside0.mk (Kd.R_below (by (with_reducible repeat (first|apply Kd.R_alloc|apply Kd.R_drewN|apply Kd.R_drew));exact HO119.out) hb);have n2_ := Aside0.mk (Kd.R_below (by (with_reducible repeat (first|apply Kd.R_alloc|apply Kd.R_drewN|apply Kd.R_drew));exact HO122.out) hb);have n3_ := Aside0.mk (Kd.R_below (by (with_reducible repeat (first|apply Kd.R_alloc|apply Kd.R_drewN|apply Kd.R_drew));exact HO125.out) hb);have n4_ := Aside0.mk (Kd.R_below (by (with_reducible repeat (first|apply Kd.R_alloc|apply Kd.R_drewN|apply Kd.R_drew));exact HO130.out) hb);have n5_ := Aside0.mk (blk_below (g := gb101) (o := .cells #[.int .u64 a0_0, .slice A0_1 l0_1.length c0_1] 53 (0, 0)) (by (with_reducible repeat (first|refine blk_drewN ?_ _|refine blk_drew ?_|refine blk_alloc ?_ _));exact BK101.out) hb);have n6_ := Aside0.mk (blk_below (g := gb113) (o := .cells #[.int .u64 t110, .int .u64 t111] 26 (0, 0)) (by (with_reducible repeat (first|refine blk_drewN ?_ _|refine blk_drew ?_|refine blk_alloc ?_ _));exact BK113.out) hb);have n7_ := Aside0.mk (below_step (by repeat (first|(with_reducible first|exact HB.out|apply below_alloc|apply pw_below_drewN|apply below_drew1|refine below_set ?_ GE101.out|refine below_set ?_ GE113.out)|exact HB.out)) hb);have n8_ := Aside0.mk (hbox);have n9_ := Aside0.mk ((by rw [hg];exact (below_size (by repeat (first|(with_reducible first|exact HB.out|apply below_alloc|apply pw_below_drewN|apply below_drew1|refine below_set ?_ GE101.out|refine below_set ?_ GE113.out)|exact HB.out))) : w.heap.size ≤ gb134));have n10_ := Aside0.mk ((by rw [hg];exact (below_size (by repeat (first|(with_reducible first|exact HB.out|apply below_alloc|apply pw_below_drewN|apply below_drew1|refine below_set ?_ GE101.out|refine below_set ?_ GE113.out)|exact HB.out))) : w.heap.size ≤ gb134));have n11_ := Aside0.mk ((by rw [hg];exact Nat.ne_of_lt (blk_lt (g := gb101) (o := .cells #[.int .u64 a0_0, .slice A0_1 l0_1.length c0_1] 53 (0, 0)) (by (with_reducible repeat (first|refine blk_drewN ?_ _|refine blk_drew ?_|refine blk_alloc ?_ _));exact BK101.out)) : gb101 ≠ gb134));have n12_ := Aside0.mk ((by rw [hg];exact Nat.ne_of_gt (blk_lt (g := gb101) (o := .cells #[.int .u64 a0_0, .slice A0_1 l0_1.length c0_1] 53 (0, 0)) (by (with_reducible repeat (first|refine blk_drewN ?_ _|refine blk_drew ?_|refine blk_alloc ?_ _));exact BK101.out)) : gb134 ≠ gb101));have n13_ := Aside0.mk ((by rw [hg];exact Nat.ne_of_lt (blk_lt (g := gb113) (o := .cells #[.int .u64 t110, .int .u64 t111] 26 (0, 0)) (by (with_reducible repeat (first|refine blk_drewN ?_ _|refine blk_drew ?_|refine blk_alloc ?_ _));exact BK113.out)) : gb113 ≠ gb134));have n14_ := Aside0.mk ((by rw [hg];exact Nat.ne_of_gt (blk_lt (g := gb113) (o := .cells #[.int .u64 t110, .int .u64 t111] 26 (0, 0)) (by (with_reducible repeat (first|refine blk_drewN ?_ _|refine blk_drew ?_|refine blk_alloc ?_ _));exact BK113.out)) : gb134 ≠ gb113));clear HO105;clear HO119;clear HO122;clear HO125;clear HO130;clear BK101;clear BK113;clear HB;have HO105 := n0_;have HO119 := n1_;have HO122 := n2_;have HO125 := n3_;have HO130 := n4_;have BK101 := n5_;have BK113 := n6_;have HB := n7_;have BK134 := n8_;have GW134 := n9_;have GE134 := n10_;have NB101_134 := n11_;have NB134_101 := n12_;have NB113_134 := n13_;have NB134_113 := n14_;clear n0_ n1_ n2_ n3_ n4_ n5_ n6_ n7_ n8_ n9_ n10_ n11_ n12_ n13_ n14_;clear hb hbox hg;have hnb51 := NB134_101.out;have hnc51 := NB101_134.out;have hnb52 := NB134_113.out;have hnc52 := NB113_134.out;have hcz53_0 : w50.cell? ⟨gb134, 0, none⟩ = some (.int .u64 0) := (blk_cell BK134.out 0).trans rfl;have hcz53_1 : w50.cell? ⟨gb134, 1, none⟩ = some (.int .u64 0) := (blk_cell BK134.out 1).trans rfl;have hfz53_0 := blk_frozen BK134.out 0;have hfz53_1 := blk_frozen BK134.out 1))
     (try simp only [Act.put, List.setIfInBounds_toArray, List.set_cons_zero, List.set_cons_succ])
     go_cut [128] (fun v128 wc => ∃ (kq : Nat) (x128_24 : Bool), v128 = .bool x128_24 ∧ Aside0 (tombolalaw12_AliasPicks.j1 kq a1 l3 t103 t106 t107 t108 t127 x128_24 a0_0 l0_1 = some r) ∧ Aside0 (kq ≤ kj4) ∧ Aside0 (Kd.R k66 66 wc w.heap.size (fun _ => True) (.slice Ao38 t103.length co38) t103) ∧ Aside0 (wc.heap[gb101]? = some (.cells #[.int .u64 a0_0, (.slice A0_1 l0_1.length c0_1)] 53 (0, 0))) ∧ Aside0 (wc.heap[gb113]? = some (.cells #[.int .u64 t110, .int .u64 t111] 26 (0, 0))) ∧ Aside0 (wc.heap[gb134]? = some (.cells #[.int .u64 t131, .int .u64 t132] 26 (0, 0))) ∧ Aside0 (Below w.heap.size w wc))
     case first =>
      have H := HC25.out
      clear HC25
      by_cases c54 : t108 = t126
      ·rw [if_pos c54] at H
       have c54b0 : (t108 == t126) = true := beq_iff_eq.mpr c54
       have c54b1 : (t108 != t126) = false := bne_eq_false_iff_eq.mpr c54
       clear c54
       (first|rw [c54b0]|rw [c54b1]|(simp only [i64_w, i32_w];rw [c54b0])|skip)
       by_cases c55 : (t109 != t127) = true
       ·rw [if_pos c55] at H
        have c55b0 : (t109 != t127) = true := c55
        (try (have c55b1 : decide (t109 = t127) = false := by simpa using c55))
        (try (have c55b2 : (t109 == t127) = false := by simpa using c55))
        (try (have c55b3 : ¬ (t109 = t127) := by simpa using c55))
        clear c55
        have hr_ := ht_.out
        subst hr_
        exact absurd H (by cases kj4 <;> simp [tombolalaw12_AliasPicks.j1])
       ·rw [if_neg c55] at H
        have c55b0 : (t109 != t127) = false := by simpa using c55
        (try (have c55b1 : decide (t109 = t127) = true := by simpa using c55))
        (try (have c55b2 : (t109 == t127) = true := by simpa using c55))
        clear c55
        by_cases c56 : (!(t110 == t131) || (!(t111 == t132))) = true
        ·rw [if_pos c56] at H
         have c56b0 : (!(t110 == t131) || (!(t111 == t132))) = true := c56
         clear c56
         have hr_ := ht_.out
         subst hr_
         exact absurd H (by cases kj4 <;> simp [tombolalaw12_AliasPicks.j1])
        ·rw [if_neg c56] at H
         have c56b0 : (!(t110 == t131) || (!(t111 == t132))) = false := by simpa using c56
         clear c56
         have H' := Aside0.mk H
         clear H
         have hnb57 := NB113_101.out
         have hnc57 := NB101_113.out
         have hnb58 := NB113_134.out
         have hnc58 := NB134_113.out
         have hcz59_0 : w50.cell? ⟨gb113, 0, none⟩ = some (.int .u64 t110) := (blk_cell BK113.out 0).trans rfl
         have hcz59_1 : w50.cell? ⟨gb113, 1, none⟩ = some (.int .u64 t111) := (blk_cell BK113.out 1).trans rfl
         have hfz59_0 := blk_frozen BK113.out 0
         have hfz59_1 := blk_frozen BK113.out 1
         have hnb60 := NB134_101.out
         have hnc60 := NB101_134.out
         have hcz61_0 : w50.cell? ⟨gb134, 0, none⟩ = some (.int .u64 0) := (blk_cell BK134.out 0).trans rfl
         have hcz61_1 : w50.cell? ⟨gb134, 1, none⟩ = some (.int .u64 0) := (blk_cell BK134.out 1).trans rfl
         have hfz61_0 := blk_frozen BK134.out 0
         have hfz61_1 := blk_frozen BK134.out 1
         go_wp2
         go_meet
         case rel => exact ⟨_, (!t112), (by first|rfl|(simp;done)|(simp [*];done)), H', ⟨by have := HJ4.out;first|omega|exact Nat.le_refl _⟩, ⟨by (with_reducible repeat (first|apply Kd.R_alloc|apply Kd.R_drewN|apply Kd.R_drew));exact Kd.R_mono (Kd.R_far (p := ⟨gb134, 1, none⟩) (Kd.R_far (p := ⟨gb134, 0, none⟩) (Kd.R_types HO105.out BK134.out (by decide)) (fun _ hk => hk.2) (.int .u64 t131)) (fun _ hk => hk.2) (.int .u64 t132)) (fun _ hk => trivial)⟩, ⟨by (with_reducible repeat (first|refine blk_drewN ?_ _|refine blk_drew ?_|refine blk_alloc ?_ _));refine blk_far ?_ NB101_134.out _;(with_reducible repeat (first|refine blk_drewN ?_ _|refine blk_drew ?_|refine blk_alloc ?_ _));refine blk_far ?_ NB101_134.out _;(with_reducible repeat (first|refine blk_drewN ?_ _|refine blk_drew ?_|refine blk_alloc ?_ _));exact BK101.out⟩, ⟨by (with_reducible repeat (first|refine blk_drewN ?_ _|refine blk_drew ?_|refine blk_alloc ?_ _));refine blk_far ?_ NB113_134.out _;(with_reducible repeat (first|refine blk_drewN ?_ _|refine blk_drew ?_|refine blk_alloc ?_ _));refine blk_far ?_ NB113_134.out _;(with_reducible repeat (first|refine blk_drewN ?_ _|refine blk_drew ?_|refine blk_alloc ?_ _));exact BK113.out⟩, ⟨by (with_reducible repeat (first|refine blk_drewN ?_ _|refine blk_drew ?_|refine blk_alloc ?_ _));refine blk_put (cs := #[.int .u64 t131, .int .u64 0]) ?_ 1 _ rfl;(with_reducible repeat (first|refine blk_drewN ?_ _|refine blk_drew ?_|refine blk_alloc ?_ _));refine blk_put (cs := #[.int .u64 0, .int .u64 0]) ?_ 0 _ rfl;(with_reducible repeat (first|refine blk_drewN ?_ _|refine blk_drew ?_|refine blk_alloc ?_ _));exact BK134.out⟩, ⟨by repeat (first|(with_reducible first|exact HB.out|apply below_alloc|apply pw_below_drewN|apply below_drew1|refine below_set ?_ GE101.out|refine below_set ?_ GE113.out|refine below_set ?_ GE134.out)|exact HB.out)⟩⟩
      ·rw [if_neg c54] at H
       have c54b0 : (t108 == t126) = false := beq_eq_false_iff_ne.mpr c54
       have c54b1 : (t108 != t126) = true := bne_iff_ne.mpr c54
       (first|rw [c54b0]|rw [c54b1]|(simp only [i64_w, i32_w];rw [c54b0])|skip)
       have hr_ := ht_.out
       subst hr_
       exact absurd H (by cases kj4 <;> simp [tombolalaw12_AliasPicks.j1])
     case rest => as_aux_lemma =>
      clear HC25
      try clear c1
      try clear c2
      try clear p2
      try clear c3
      try clear c5
      try clear c6
      try clear c7
      try clear c7b0
      try clear c7b1
      try clear c10
      try clear c12
      try clear c18
      try clear c26
      try clear c27
      try clear c28
      try clear c29
      try clear c30
      try clear c31
      try clear c33
      try clear c34
      try clear c35
      try clear c36
      try clear c51
      try clear c52
      try clear c54
      try clear c54b0
      try clear c54b1
      try clear c55
      try clear c55b0
      try clear c55b1
      try clear c55b2
      try clear c56
      try clear c56b0
      try clear c57
      try clear c58
      try clear c60
      try clear hcz26_0
      try clear hcz26_1
      try clear hcz28_0
      try clear hcz28_1
      try clear hcz30_0
      try clear hcz30_1
      try clear hcz32_0
      try clear hcz32_1
      try clear hcz36_0
      try clear hcz36_1
      try clear hcz37_0
      try clear hcz37_1
      try clear hcz46_0
      try clear hcz46_1
      try clear hcz53_0
      try clear hcz53_1
      try clear hcz59_0
      try clear hcz59_1
      try clear hcz61_0
      try clear hcz61_1
      try clear hcz8_0
      try clear hcz8_1
      try clear hcz9_0
      try clear hcz9_1
      try clear hfz26_0
      try clear hfz26_1
      try clear hfz28_0
      try clear hfz28_1
      try clear hfz30_0
      try clear hfz30_1
      try clear hfz32_0
      try clear hfz32_1
      try clear hfz36_0
      try clear hfz36_1
      try clear hfz37_0
      try clear hfz37_1
      try clear hfz46_0
      try clear hfz46_1
      try clear hfz53_0
      try clear hfz53_1
      try clear hfz59_0
      try clear hfz59_1
      try clear hfz61_0
      try clear hfz61_1
      try clear hfz8_0
      try clear hfz8_1
      try clear hfz9_0
      try clear hfz9_1
      try clear p2
      obtain ⟨kq, x128_24, rfl, HA, HJ24, HO_9, BK101, BK113, BK134, HB⟩ := hcut
      cases kq with
      | zero => exact absurd HA.out (by simp [tombolalaw12_AliasPicks.j1])
      | succ kj24 =>
       have H := HA.out
       clear HA
       simp only [tombolalaw12_AliasPicks.j1] at H
       by_cases c62 : x128_24 = true
       ·subst c62
        have H1 : (some false) = some r := by rw [if_pos rfl] at H;exact H
        clear H
        have H := H1
        clear H1
        exact absurd ((Option.some.inj H).trans ht_.out) (by simp)
       ·replace c62 := Bool.eq_false_iff.mpr c62
        subst c62
        have H1 : (if t127 = true then (tombolalaw12_AliasPicks.j2 kj24 a1 l3 t103 t106 t107 (decide (a1 ≥ t108)) a0_0 l0_1) else (tombolalaw12_AliasPicks.j2 kj24 a1 l3 t103 t106 t107 true a0_0 l0_1)) = some r := by rw [if_neg (show ¬ (false = true) by decide)] at H;exact H
        clear H
        have H := H1
        clear H1
        have HC63 := Aside0.mk H
        clear H
        go_upto_region 13 with (fail)
        go_cut [135] (fun v135 wc => ∃ (kq : Nat) (x135_62 : Bool), v135 = .bool x135_62 ∧ Aside0 (tombolalaw12_AliasPicks.j2 kq a1 l3 t103 t106 t107 x135_62 a0_0 l0_1 = some r) ∧ Aside0 (kq ≤ kj24) ∧ Aside0 (Kd.R k66 66 wc w.heap.size (fun _ => True) (.slice Ao38 t103.length co38) t103) ∧ Aside0 (wc.heap[gb101]? = some (.cells #[.int .u64 a0_0, (.slice A0_1 l0_1.length c0_1)] 53 (0, 0))) ∧ Aside0 (wc.heap[gb113]? = some (.cells #[.int .u64 t110, .int .u64 t111] 26 (0, 0))) ∧ Aside0 (wc.heap[gb134]? = some (.cells #[.int .u64 t131, .int .u64 t132] 26 (0, 0))) ∧ Aside0 (Below w.heap.size w wc))
        case first =>
         have H := HC63.out
         clear HC63
         by_cases c64 : t127 = true
         ·subst c64
          have H1 : (tombolalaw12_AliasPicks.j2 kj24 a1 l3 t103 t106 t107 (decide (a1 ≥ t108)) a0_0 l0_1) = some r := by rw [if_pos rfl] at H;exact H
          clear H
          have H := H1
          clear H1
          have H' := Aside0.mk H
          clear H
          go_wp2
          go_meet
          case rel => exact ⟨_, (decide (a1 ≥ t108)), (by first|rfl|(simp;done)|(simp [*];done)), H', ⟨by have := HJ4.out;have := HJ24.out;first|omega|exact Nat.le_refl _⟩, ⟨by (with_reducible repeat (first|apply Kd.R_alloc|apply Kd.R_drewN|apply Kd.R_drew));exact HO_9.out⟩, ⟨by (with_reducible repeat (first|refine blk_drewN ?_ _|refine blk_drew ?_|refine blk_alloc ?_ _));exact BK101.out⟩, ⟨by (with_reducible repeat (first|refine blk_drewN ?_ _|refine blk_drew ?_|refine blk_alloc ?_ _));exact BK113.out⟩, ⟨by (with_reducible repeat (first|refine blk_drewN ?_ _|refine blk_drew ?_|refine blk_alloc ?_ _));exact BK134.out⟩, ⟨by repeat (first|(with_reducible first|exact HB.out|apply below_alloc|apply pw_below_drewN|apply below_drew1|refine below_set ?_ GE101.out|refine below_set ?_ GE113.out|refine below_set ?_ GE134.out)|exact HB.out)⟩⟩
         ·replace c64 := Bool.eq_false_iff.mpr c64
          subst c64
          have H1 : (tombolalaw12_AliasPicks.j2 kj24 a1 l3 t103 t106 t107 true a0_0 l0_1) = some r := by rw [if_neg (show ¬ (false = true) by decide)] at H;exact H
          clear H
          have H := H1
          clear H1
          have H' := Aside0.mk H
          clear H
          go_wp2
          go_meet
          case rel => exact ⟨_, (true), (by first|rfl|(simp;done)|(simp [*];done)), H', ⟨by have := HJ4.out;have := HJ24.out;first|omega|exact Nat.le_refl _⟩, ⟨by (with_reducible repeat (first|apply Kd.R_alloc|apply Kd.R_drewN|apply Kd.R_drew));exact HO_9.out⟩, ⟨by (with_reducible repeat (first|refine blk_drewN ?_ _|refine blk_drew ?_|refine blk_alloc ?_ _));exact BK101.out⟩, ⟨by (with_reducible repeat (first|refine blk_drewN ?_ _|refine blk_drew ?_|refine blk_alloc ?_ _));exact BK113.out⟩, ⟨by (with_reducible repeat (first|refine blk_drewN ?_ _|refine blk_drew ?_|refine blk_alloc ?_ _));exact BK134.out⟩, ⟨by repeat (first|(with_reducible first|exact HB.out|apply below_alloc|apply pw_below_drewN|apply below_drew1|refine below_set ?_ GE101.out|refine below_set ?_ GE113.out|refine below_set ?_ GE134.out)|exact HB.out)⟩⟩
        case rest => as_aux_lemma =>
         clear HC63
         try clear c1
         try clear c2
         try clear p2
         try clear c3
         try clear c5
         try clear c6
         try clear c7
         try clear c7b0
         try clear c7b1
         try clear c10
         try clear c12
         try clear c18
         try clear c26
         try clear c27
         try clear c28
         try clear c29
         try clear c30
         try clear c31
         try clear c33
         try clear c34
         try clear c35
         try clear c36
         try clear c51
         try clear c52
         try clear c54
         try clear c54b0
         try clear c54b1
         try clear c55
         try clear c55b0
         try clear c55b1
         try clear c55b2
         try clear c56
         try clear c56b0
         try clear c57
         try clear c58
         try clear c60
         try clear c62
         try clear c64
         try clear hcz26_0
         try clear hcz26_1
         try clear hcz28_0
         try clear hcz28_1
         try clear hcz30_0
         try clear hcz30_1
         try clear hcz32_0
         try clear hcz32_1
         try clear hcz36_0
         try clear hcz36_1
         try clear hcz37_0
         try clear hcz37_1
         try clear hcz46_0
         try clear hcz46_1
         try clear hcz53_0
         try clear hcz53_1
         try clear hcz59_0
         try clear hcz59_1
         try clear hcz61_0
         try clear hcz61_1
         try clear hcz8_0
         try clear hcz8_1
         try clear hcz9_0
         try clear hcz9_1
         try clear hfz26_0
         try clear hfz26_1
         try clear hfz28_0
         try clear hfz28_1
         try clear hfz30_0
         try clear hfz30_1
         try clear hfz32_0
         try clear hfz32_1
         try clear hfz36_0
         try clear hfz36_1
         try clear hfz37_0
         try clear hfz37_1
         try clear hfz46_0
         try clear hfz46_1
         try clear hfz53_0
         try clear hfz53_1
         try clear hfz59_0
         try clear hfz59_1
         try clear hfz61_0
         try clear hfz61_1
         try clear hfz8_0
         try clear hfz8_1
         try clear hfz9_0
         try clear hfz9_1
         try clear p2
         obtain ⟨kq, x135_62, rfl, HA, HJ62, HO_9, BK101, BK113, BK134, HB⟩ := hcut
         cases kq with
         | zero => exact absurd HA.out (by simp [tombolalaw12_AliasPicks.j2])
         | succ kj62 =>
          have H := HA.out
          clear HA
          simp only [tombolalaw12_AliasPicks.j2] at H
          have HC65 := Aside0.mk H
          clear H
          go_upto_if 135 with (fail)
          go_cut [] (fun wc => ∃ (kq : Nat), Aside0 (tombolalaw12_AliasPicks.j3 kq l3 t103 a0_0 l0_1 = some r) ∧ Aside0 (kq ≤ kj62) ∧ Aside0 (Kd.R k66 66 wc w.heap.size (fun _ => True) (.slice Ao38 t103.length co38) t103) ∧ Aside0 (wc.heap[gb101]? = some (.cells #[.int .u64 a0_0, (.slice A0_1 l0_1.length c0_1)] 53 (0, 0))) ∧ Aside0 (wc.heap[gb113]? = some (.cells #[.int .u64 t110, .int .u64 t111] 26 (0, 0))) ∧ Aside0 (wc.heap[gb134]? = some (.cells #[.int .u64 t131, .int .u64 t132] 26 (0, 0))) ∧ Aside0 (Below w.heap.size w wc))
          case first =>
           have H := HC65.out
           clear HC65
           by_cases c66 : x135_62 = true
           ·subst c66
            have H1 : (if t106 = (-1) then (if t107 = true then (some false) else (tombolalaw12_AliasPicks.j3 kj62 l3 t103 a0_0 l0_1)) else (some false)) = some r := by rw [if_pos rfl] at H;exact H
            clear H
            have H := H1
            clear H1
            by_cases c67 : t106 = (-1)
            ·rw [if_pos c67] at H
             have c67b0 : (t106 == (-1)) = true := beq_iff_eq.mpr c67
             have c67b1 : (t106 != (-1)) = false := bne_eq_false_iff_eq.mpr c67
             clear c67
             (first|rw [c67b0]|rw [c67b1]|(simp only [i64_w, i32_w];rw [c67b0])|skip)
             by_cases c68 : t107 = true
             ·subst c68
              have H1 : (some false) = some r := by rw [if_pos rfl] at H;exact H
              clear H
              have H := H1
              clear H1
              exact absurd ((Option.some.inj H).trans ht_.out) (by simp)
             ·replace c68 := Bool.eq_false_iff.mpr c68
              subst c68
              have H1 : (tombolalaw12_AliasPicks.j3 kj62 l3 t103 a0_0 l0_1) = some r := by rw [if_neg (show ¬ (false = true) by decide)] at H;exact H
              clear H
              have H := H1
              clear H1
              have H' := Aside0.mk H
              clear H
              go_wp2
              go_meet
              case rel => exact ⟨_, H', ⟨by have := HJ4.out;have := HJ24.out;have := HJ62.out;first|omega|exact Nat.le_refl _⟩, ⟨by (with_reducible repeat (first|apply Kd.R_alloc|apply Kd.R_drewN|apply Kd.R_drew));exact HO_9.out⟩, ⟨by (with_reducible repeat (first|refine blk_drewN ?_ _|refine blk_drew ?_|refine blk_alloc ?_ _));exact BK101.out⟩, ⟨by (with_reducible repeat (first|refine blk_drewN ?_ _|refine blk_drew ?_|refine blk_alloc ?_ _));exact BK113.out⟩, ⟨by (with_reducible repeat (first|refine blk_drewN ?_ _|refine blk_drew ?_|refine blk_alloc ?_ _));exact BK134.out⟩, ⟨by repeat (first|(with_reducible first|exact HB.out|apply below_alloc|apply pw_below_drewN|apply below_drew1|refine below_set ?_ GE101.out|refine below_set ?_ GE113.out|refine below_set ?_ GE134.out)|exact HB.out)⟩⟩
            ·rw [if_neg c67] at H
             have c67b0 : (t106 == (-1)) = false := beq_eq_false_iff_ne.mpr c67
             have c67b1 : (t106 != (-1)) = true := bne_iff_ne.mpr c67
             (first|rw [c67b0]|rw [c67b1]|(simp only [i64_w, i32_w];rw [c67b0])|skip)
             exact absurd ((Option.some.inj H).trans ht_.out) (by simp)
           ·replace c66 := Bool.eq_false_iff.mpr c66
            subst c66
            have H1 : (if a0_0 = 0 then (none) else (if 0 ≤ (wrap64 (IntKind.u64.wrap (Int.tdiv a1 a0_0))) then (if (wrap64 (IntKind.u64.wrap (Int.tdiv a1 a0_0))) < (t103.length : Int) then (if (Int.tmod a1 a0_0) ≥ ((rd_T66 t103 (wrap64 (IntKind.u64.wrap (Int.tdiv a1 a0_0)))).f0) then (if t106 = ((rd_T66 t103 (wrap64 (IntKind.u64.wrap (Int.tdiv a1 a0_0)))).f1) then (if t107 = true then (tombolalaw12_AliasPicks.j3 kj62 l3 t103 a0_0 l0_1) else (some false)) else (some false)) else (if t106 = (wrap64 (IntKind.u64.wrap (Int.tdiv a1 a0_0))) then (if t107 = true then (tombolalaw12_AliasPicks.j3 kj62 l3 t103 a0_0 l0_1) else (some false)) else (some false))) else (none)) else (none))) = some r := by rw [if_neg (show ¬ (false = true) by decide)] at H;exact H
            clear H
            have H := H1
            clear H1
            by_cases c69 : a0_0 = 0
            ·rw [if_pos c69] at H
             exact absurd H (by simp)
            ·rw [if_neg c69] at H
             have c69b0 : (a0_0 == 0) = false := beq_eq_false_iff_ne.mpr c69
             have c69b1 : (a0_0 != 0) = true := bne_iff_ne.mpr c69
             obtain ⟨ji70, hji70⟩ : ∃ j_ : Int, (wrap64 (IntKind.u64.wrap (Int.tdiv a1 a0_0))) = j_ := ⟨_, rfl⟩
             replace H : (if 0 ≤ (ji70) then (if (ji70) < (t103.length : Int) then (if (Int.tmod a1 a0_0) ≥ ((rd_T66 t103 (ji70)).f0) then (if t106 = ((rd_T66 t103 (ji70)).f1) then (if t107 = true then (tombolalaw12_AliasPicks.j3 kj62 l3 t103 a0_0 l0_1) else (some false)) else (some false)) else (if t106 = (ji70) then (if t107 = true then (tombolalaw12_AliasPicks.j3 kj62 l3 t103 a0_0 l0_1) else (some false)) else (some false))) else (none)) else (none)) = some r := by first|(rw [hji70] at H;exact H)|(simp only [hji70] at H ⊢;exact H)
             have hji70w : (IntKind.i64.wrap (IntKind.u64.wrap (Int.tdiv a1 a0_0))) = ji70 := (i64_w _).trans hji70
             by_cases c71 : 0 ≤ (ji70)
             ·rw [if_pos c71] at H
              have c71b0 : decide (0 ≤ (ji70)) = true := decide_eq_true c71
              clear c71
              by_cases c72 : (ji70) < (t103.length : Int)
              ·rw [if_pos c72] at H
               have c72b0 : decide ((ji70) < (t103.length : Int)) = true := decide_eq_true c72
               clear c72
               by_cases c73 : (Int.tmod a1 a0_0) ≥ ((rd_T66 t103 (ji70)).f0)
               ·rw [if_pos c73] at H
                have c73b0 : decide (((rd_T66 t103 (ji70)).f0) ≤ (Int.tmod a1 a0_0)) = true := decide_eq_true c73
                clear c73
                by_cases c74 : t106 = ((rd_T66 t103 (ji70)).f1)
                ·rw [if_pos c74] at H
                 have c74b0 : (t106 == ((rd_T66 t103 (ji70)).f1)) = true := beq_iff_eq.mpr c74
                 have c74b1 : (t106 != ((rd_T66 t103 (ji70)).f1)) = false := bne_eq_false_iff_eq.mpr c74
                 clear c74
                 by_cases c75 : t107 = true
                 ·subst c75
                  have H1 : (tombolalaw12_AliasPicks.j3 kj62 l3 t103 a0_0 l0_1) = some r := by rw [if_pos rfl] at H;exact H
                  clear H
                  have H := H1
                  clear H1
                  have H' := Aside0.mk H
                  clear H
                  have hnb76 := NB101_113.out
                  have hnc76 := NB113_101.out
                  have hnb77 := NB101_134.out
                  have hnc77 := NB134_101.out
                  have hcz78_0 : wc.cell? ⟨gb101, 0, none⟩ = some (.int .u64 a0_0) := (blk_cell BK101.out 0).trans rfl
                  have hcz78_1 : wc.cell? ⟨gb101, 1, none⟩ = some (.slice A0_1 l0_1.length c0_1) := (blk_cell BK101.out 1).trans rfl
                  have hfz78_0 := blk_frozen BK101.out 0
                  have hfz78_1 := blk_frozen BK101.out 1
                  try go_wp2
                  have n0_ := Aside0.mk (Kd.R_drew HO_9.out)
                  have n1_ := Aside0.mk (blk_drew BK101.out)
                  have n2_ := Aside0.mk (blk_drew BK113.out)
                  have n3_ := Aside0.mk (blk_drew BK134.out)
                  have n4_ := Aside0.mk (below_drew1 HB.out)
                  clear HO_9
                  clear BK101
                  clear BK113
                  clear BK134
                  clear HB
                  have HO_9 := n0_
                  have BK101 := n1_
                  have BK113 := n2_
                  have BK134 := n3_
                  have HB := n4_
                  clear n0_ n1_ n2_ n3_ n4_
                  have p135 : 0 ≤ ((ji70) : Int) := of_decide_eq_true (by first|(with_reducible assumption)|assumption)
                  have q135 : (ji70) < (t103.length : Int) := of_decide_eq_true (by first|(with_reducible assumption)|assumption)
                  obtain ⟨ad135, e135, hx135_0, hx135_1⟩ := at_T66 (Kd.R_reads' HO_9.out).2.2 (ji70) p135 q135
                  cases e135
                  replace p135 := eq_true p135
                  replace q135 := eq_true q135
                  refine start_ (n := 10) (S := fun w' => w'.cell? ⟨gb101, 0, none⟩ = some (.int .u64 a0_0) ∧ w'.cell? ⟨gb101, 1, none⟩ = some (.slice A0_1 l0_1.length c0_1) ∧ w'.cell? (ad135.add (((ji70)).toNat * 2)) = some (.int .u64 ((rd_T66 t103 (ji70)).f0)) ∧ w'.cell? ⟨(ad135.add (((ji70)).toNat * 2)).block, (ad135.add (((ji70)).toNat * 2)).off + 1, none⟩ = some (.int .i64 ((rd_T66 t103 (ji70)).f1))) (ds := []) #[false, false, false, false, false, false, false, false, false, false] (by kernel_rfl) rfl rfl ⟨(blk_cell BK101.out 0).trans rfl, (blk_cell BK101.out 1).trans rfl, hx135_0, hx135_1⟩ (fun hHeld => ?_);refine with_tabW tombolalaw12_AliasPicks.tab17 tombolalaw12_AliasPicks.bits17 (fun HT_ HW_ => ?_)
                  generalize wc.drew = w79 at HO_9 BK101 BK113 BK134 HB hx135_0 hx135_1 hHeld ⊢
                  refine pure_ (i := 0) (N := some 146) (v := ?_) (a' := ?_) #[true, false, false, false, false, false, false, false, false, false] rfl rfl (any_of HT_.out (by kernel_rfl)) (fun _ _ _ h => h) (Or.inl ⟨by rfl, ?_⟩) ?_ ?_
                  rotate_left
                  ·intro w'
                   go_simp
                   with_reducible rfl
                  rotate_left
                  ·simp only [Act.put, List.setIfInBounds_toArray, List.set_cons_zero, List.set_cons_succ, i64_w, i32_w]
                   rfl
                  refine pure_ (i := 1) (N := some 147) (v := ?_) (a' := ?_) #[true, true, false, false, false, false, false, false, false, false] rfl rfl (any_of HT_.out (by kernel_rfl)) (fun _ _ _ h => h) (Or.inl ⟨by rfl, ?_⟩) ?_ ?_
                  rotate_left
                  ·intro w'
                   go_simp
                   with_reducible rfl
                  rotate_left
                  ·simp only [Act.put, List.setIfInBounds_toArray, List.set_cons_zero, List.set_cons_succ, i64_w, i32_w]
                   rfl
                  refine pure_ (i := 4) (N := some 150) (v := ?_) (a' := ?_) #[true, true, false, false, true, false, false, false, false, false] rfl rfl (any_of HT_.out (by kernel_rfl)) (fun _ _ _ h => h) (Or.inl ⟨by rfl, ?_⟩) ?_ ?_
                  rotate_left
                  ·intro w'
                   go_simp
                   with_reducible rfl
                  rotate_left
                  ·simp only [Act.put, List.setIfInBounds_toArray, List.set_cons_zero, List.set_cons_succ, i64_w, i32_w]
                   rfl
                  refine pure_ (i := 5) (N := some 151) (v := ?_) (a' := ?_) #[true, true, false, false, true, true, false, false, false, false] rfl rfl (any_of HT_.out (by kernel_rfl)) (fun _ _ _ h => h) (Or.inl ⟨by rfl, ?_⟩) ?_ ?_
                  rotate_left
                  ·intro w'
                   go_simp
                   with_reducible rfl
                  rotate_left
                  ·simp only [Act.put, List.setIfInBounds_toArray, List.set_cons_zero, List.set_cons_succ, i64_w, i32_w]
                   rfl
                  refine pure_ (i := 6) (N := some 152) (v := ?_) (a' := ?_) #[true, true, false, false, true, true, true, false, false, false] rfl rfl (any_of HT_.out (by kernel_rfl)) (fun _ _ _ h => h) (Or.inl ⟨by rfl, ?_⟩) ?_ ?_
                  rotate_left
                  ·intro w'
                   go_simp
                   with_reducible rfl
                  rotate_left
                  ·simp only [Act.put, List.setIfInBounds_toArray, List.set_cons_zero, List.set_cons_succ, i64_w, i32_w]
                   rfl
                  refine pure_ (i := 7) (N := some 153) (v := ?_) (a' := ?_) #[true, true, false, false, true, true, true, true, false, false] rfl rfl (any_of HT_.out (by kernel_rfl)) (fun _ _ _ h => h) (Or.inl ⟨by rfl, ?_⟩) ?_ ?_
                  rotate_left
                  ·intro w'
                   go_simp
                   with_reducible rfl
                  rotate_left
                  ·simp only [Act.put, List.setIfInBounds_toArray, List.set_cons_zero, List.set_cons_succ, i64_w, i32_w]
                   rfl
                  refine take_ (i := 2) (N := some 148) (v := ?_) (a' := ?_) #[true, true, true, false, true, true, true, true, false, false] rfl rfl (take_ofW HT_.out HW_.out (by kernel_rfl)) (fun _ _ _ h => h) (Or.inl ⟨by rfl, ?_⟩) hHeld ?_ ?_
                  rotate_left
                  ·rintro w' ⟨s0, s1, s2, s3⟩
                   go_simp
                   with_reducible rfl
                  rotate_left
                  ·simp only [Act.put, List.setIfInBounds_toArray, List.set_cons_zero, List.set_cons_succ, i64_w, i32_w]
                   rfl
                  refine pure_ (i := 3) (N := some 149) (v := ?_) (a' := ?_) #[true, true, true, true, true, true, true, true, false, false] rfl rfl (any_of HT_.out (by kernel_rfl)) (fun _ _ _ h => h) (Or.inl ⟨by rfl, ?_⟩) ?_ ?_
                  rotate_left
                  ·intro w'
                   go_simp
                   with_reducible rfl
                  rotate_left
                  ·simp only [Act.put, List.setIfInBounds_toArray, List.set_cons_zero, List.set_cons_succ, i64_w, i32_w]
                   rfl
                  refine take_ (i := 8) (N := some 154) (v := ?_) (a' := ?_) #[true, true, true, true, true, true, true, true, true, false] rfl rfl (take_ofW HT_.out HW_.out (by kernel_rfl)) (fun _ _ _ h => h) (Or.inl ⟨by rfl, ?_⟩) hHeld ?_ ?_
                  rotate_left
                  ·rintro w' ⟨s0, s1, s2, s3⟩
                   go_simp
                   with_reducible rfl
                  rotate_left
                  ·simp only [Act.put, List.setIfInBounds_toArray, List.set_cons_zero, List.set_cons_succ, i64_w, i32_w]
                   rfl
                  refine pure_ (i := 9) (N := some 155) (v := ?_) (a' := ?_) #[true, true, true, true, true, true, true, true, true, true] rfl rfl (any_of HT_.out (by kernel_rfl)) (fun _ _ _ h => h) (Or.inl ⟨by rfl, ?_⟩) ?_ ?_
                  rotate_left
                  ·intro w'
                   go_simp
                   with_reducible rfl
                  rotate_left
                  ·simp only [Act.put, List.setIfInBounds_toArray, List.set_cons_zero, List.set_cons_succ, i64_w, i32_w]
                   rfl
                  refine done_ (done_of HT_.out (by kernel_rfl)) ?_
                  have p136 : 0 ≤ ((ji70) : Int) := of_decide_eq_true (by first|(with_reducible assumption)|assumption)
                  have q136 : (ji70) < (t103.length : Int) := of_decide_eq_true (by first|(with_reducible assumption)|assumption)
                  obtain ⟨ad136, e136, hx136_0, hx136_1⟩ := at_T66 (Kd.R_reads' HO_9.out).2.2 (ji70) p136 q136
                  obtain rfl : ad135 = ad136 := (by injection e136)
                  replace p136 := eq_true p136
                  replace q136 := eq_true q136
                  try go_wp2
                  go_meet
                  case rel => exact ⟨_, H', ⟨by have := HJ4.out;have := HJ24.out;have := HJ62.out;first|omega|exact Nat.le_refl _⟩, ⟨by (with_reducible repeat (first|apply Kd.R_alloc|apply Kd.R_drewN|apply Kd.R_drew));exact HO_9.out⟩, ⟨by (with_reducible repeat (first|refine blk_drewN ?_ _|refine blk_drew ?_|refine blk_alloc ?_ _));exact BK101.out⟩, ⟨by (with_reducible repeat (first|refine blk_drewN ?_ _|refine blk_drew ?_|refine blk_alloc ?_ _));exact BK113.out⟩, ⟨by (with_reducible repeat (first|refine blk_drewN ?_ _|refine blk_drew ?_|refine blk_alloc ?_ _));exact BK134.out⟩, ⟨by repeat (first|(with_reducible first|exact HB.out|apply below_alloc|apply pw_below_drewN|apply below_drew1|refine below_set ?_ GE101.out|refine below_set ?_ GE113.out|refine below_set ?_ GE134.out)|exact HB.out)⟩⟩
                 ·replace c75 := Bool.eq_false_iff.mpr c75
                  subst c75
                  have H1 : (some false) = some r := by rw [if_neg (show ¬ (false = true) by decide)] at H;exact H
                  clear H
                  have H := H1
                  clear H1
                  exact absurd ((Option.some.inj H).trans ht_.out) (by simp)
                ·rw [if_neg c74] at H
                 have c74b0 : (t106 == ((rd_T66 t103 (ji70)).f1)) = false := beq_eq_false_iff_ne.mpr c74
                 have c74b1 : (t106 != ((rd_T66 t103 (ji70)).f1)) = true := bne_iff_ne.mpr c74
                 exact absurd ((Option.some.inj H).trans ht_.out) (by simp)
               ·rw [if_neg c73] at H
                have c73b0 : decide (((rd_T66 t103 (ji70)).f0) ≤ (Int.tmod a1 a0_0)) = false := decide_eq_false c73
                clear c73
                by_cases c80 : t106 = (ji70)
                ·rw [if_pos c80] at H
                 have c80b0 : (t106 == (ji70)) = true := beq_iff_eq.mpr c80
                 have c80b1 : (t106 != (ji70)) = false := bne_eq_false_iff_eq.mpr c80
                 clear c80
                 by_cases c81 : t107 = true
                 ·subst c81
                  have H1 : (tombolalaw12_AliasPicks.j3 kj62 l3 t103 a0_0 l0_1) = some r := by rw [if_pos rfl] at H;exact H
                  clear H
                  have H := H1
                  clear H1
                  have H' := Aside0.mk H
                  clear H
                  have hnb82 := NB101_113.out
                  have hnc82 := NB113_101.out
                  have hnb83 := NB101_134.out
                  have hnc83 := NB134_101.out
                  have hcz84_0 : wc.cell? ⟨gb101, 0, none⟩ = some (.int .u64 a0_0) := (blk_cell BK101.out 0).trans rfl
                  have hcz84_1 : wc.cell? ⟨gb101, 1, none⟩ = some (.slice A0_1 l0_1.length c0_1) := (blk_cell BK101.out 1).trans rfl
                  have hfz84_0 := blk_frozen BK101.out 0
                  have hfz84_1 := blk_frozen BK101.out 1
                  try go_wp2
                  have n0_ := Aside0.mk (Kd.R_drew HO_9.out)
                  have n1_ := Aside0.mk (blk_drew BK101.out)
                  have n2_ := Aside0.mk (blk_drew BK113.out)
                  have n3_ := Aside0.mk (blk_drew BK134.out)
                  have n4_ := Aside0.mk (below_drew1 HB.out)
                  clear HO_9
                  clear BK101
                  clear BK113
                  clear BK134
                  clear HB
                  have HO_9 := n0_
                  have BK101 := n1_
                  have BK113 := n2_
                  have BK134 := n3_
                  have HB := n4_
                  clear n0_ n1_ n2_ n3_ n4_
                  have p135 : 0 ≤ ((ji70) : Int) := of_decide_eq_true (by first|(with_reducible assumption)|assumption)
                  have q135 : (ji70) < (t103.length : Int) := of_decide_eq_true (by first|(with_reducible assumption)|assumption)
                  obtain ⟨ad135, e135, hx135_0, hx135_1⟩ := at_T66 (Kd.R_reads' HO_9.out).2.2 (ji70) p135 q135
                  cases e135
                  replace p135 := eq_true p135
                  replace q135 := eq_true q135
                  refine start_ (n := 10) (S := fun w' => w'.cell? ⟨gb101, 0, none⟩ = some (.int .u64 a0_0) ∧ w'.cell? ⟨gb101, 1, none⟩ = some (.slice A0_1 l0_1.length c0_1) ∧ w'.cell? (ad135.add (((ji70)).toNat * 2)) = some (.int .u64 ((rd_T66 t103 (ji70)).f0)) ∧ w'.cell? ⟨(ad135.add (((ji70)).toNat * 2)).block, (ad135.add (((ji70)).toNat * 2)).off + 1, none⟩ = some (.int .i64 ((rd_T66 t103 (ji70)).f1))) (ds := []) #[false, false, false, false, false, false, false, false, false, false] (by kernel_rfl) rfl rfl ⟨(blk_cell BK101.out 0).trans rfl, (blk_cell BK101.out 1).trans rfl, hx135_0, hx135_1⟩ (fun hHeld => ?_);refine with_tabW tombolalaw12_AliasPicks.tab17 tombolalaw12_AliasPicks.bits17 (fun HT_ HW_ => ?_)
                  generalize wc.drew = w85 at HO_9 BK101 BK113 BK134 HB hx135_0 hx135_1 hHeld ⊢
                  refine pure_ (i := 0) (N := some 146) (v := ?_) (a' := ?_) #[true, false, false, false, false, false, false, false, false, false] rfl rfl (any_of HT_.out (by kernel_rfl)) (fun _ _ _ h => h) (Or.inl ⟨by rfl, ?_⟩) ?_ ?_
                  rotate_left
                  ·intro w'
                   go_simp
                   with_reducible rfl
                  rotate_left
                  ·simp only [Act.put, List.setIfInBounds_toArray, List.set_cons_zero, List.set_cons_succ, i64_w, i32_w]
                   rfl
                  refine pure_ (i := 1) (N := some 147) (v := ?_) (a' := ?_) #[true, true, false, false, false, false, false, false, false, false] rfl rfl (any_of HT_.out (by kernel_rfl)) (fun _ _ _ h => h) (Or.inl ⟨by rfl, ?_⟩) ?_ ?_
                  rotate_left
                  ·intro w'
                   go_simp
                   with_reducible rfl
                  rotate_left
                  ·simp only [Act.put, List.setIfInBounds_toArray, List.set_cons_zero, List.set_cons_succ, i64_w, i32_w]
                   rfl
                  refine pure_ (i := 4) (N := some 150) (v := ?_) (a' := ?_) #[true, true, false, false, true, false, false, false, false, false] rfl rfl (any_of HT_.out (by kernel_rfl)) (fun _ _ _ h => h) (Or.inl ⟨by rfl, ?_⟩) ?_ ?_
                  rotate_left
                  ·intro w'
                   go_simp
                   with_reducible rfl
                  rotate_left
                  ·simp only [Act.put, List.setIfInBounds_toArray, List.set_cons_zero, List.set_cons_succ, i64_w, i32_w]
                   rfl
                  refine pure_ (i := 5) (N := some 151) (v := ?_) (a' := ?_) #[true, true, false, false, true, true, false, false, false, false] rfl rfl (any_of HT_.out (by kernel_rfl)) (fun _ _ _ h => h) (Or.inl ⟨by rfl, ?_⟩) ?_ ?_
                  rotate_left
                  ·intro w'
                   go_simp
                   with_reducible rfl
                  rotate_left
                  ·simp only [Act.put, List.setIfInBounds_toArray, List.set_cons_zero, List.set_cons_succ, i64_w, i32_w]
                   rfl
                  refine pure_ (i := 6) (N := some 152) (v := ?_) (a' := ?_) #[true, true, false, false, true, true, true, false, false, false] rfl rfl (any_of HT_.out (by kernel_rfl)) (fun _ _ _ h => h) (Or.inl ⟨by rfl, ?_⟩) ?_ ?_
                  rotate_left
                  ·intro w'
                   go_simp
                   with_reducible rfl
                  rotate_left
                  ·simp only [Act.put, List.setIfInBounds_toArray, List.set_cons_zero, List.set_cons_succ, i64_w, i32_w]
                   rfl
                  refine pure_ (i := 7) (N := some 153) (v := ?_) (a' := ?_) #[true, true, false, false, true, true, true, true, false, false] rfl rfl (any_of HT_.out (by kernel_rfl)) (fun _ _ _ h => h) (Or.inl ⟨by rfl, ?_⟩) ?_ ?_
                  rotate_left
                  ·intro w'
                   go_simp
                   with_reducible rfl
                  rotate_left
                  ·simp only [Act.put, List.setIfInBounds_toArray, List.set_cons_zero, List.set_cons_succ, i64_w, i32_w]
                   rfl
                  refine take_ (i := 2) (N := some 148) (v := ?_) (a' := ?_) #[true, true, true, false, true, true, true, true, false, false] rfl rfl (take_ofW HT_.out HW_.out (by kernel_rfl)) (fun _ _ _ h => h) (Or.inl ⟨by rfl, ?_⟩) hHeld ?_ ?_
                  rotate_left
                  ·rintro w' ⟨s0, s1, s2, s3⟩
                   go_simp
                   with_reducible rfl
                  rotate_left
                  ·simp only [Act.put, List.setIfInBounds_toArray, List.set_cons_zero, List.set_cons_succ, i64_w, i32_w]
                   rfl
                  refine pure_ (i := 3) (N := some 149) (v := ?_) (a' := ?_) #[true, true, true, true, true, true, true, true, false, false] rfl rfl (any_of HT_.out (by kernel_rfl)) (fun _ _ _ h => h) (Or.inl ⟨by rfl, ?_⟩) ?_ ?_
                  rotate_left
                  ·intro w'
                   go_simp
                   with_reducible rfl
                  rotate_left
                  ·simp only [Act.put, List.setIfInBounds_toArray, List.set_cons_zero, List.set_cons_succ, i64_w, i32_w]
                   rfl
                  refine take_ (i := 8) (N := some 154) (v := ?_) (a' := ?_) #[true, true, true, true, true, true, true, true, true, false] rfl rfl (take_ofW HT_.out HW_.out (by kernel_rfl)) (fun _ _ _ h => h) (Or.inl ⟨by rfl, ?_⟩) hHeld ?_ ?_
                  rotate_left
                  ·rintro w' ⟨s0, s1, s2, s3⟩
                   go_simp
                   with_reducible rfl
                  rotate_left
                  ·simp only [Act.put, List.setIfInBounds_toArray, List.set_cons_zero, List.set_cons_succ, i64_w, i32_w]
                   rfl
                  refine pure_ (i := 9) (N := some 155) (v := ?_) (a' := ?_) #[true, true, true, true, true, true, true, true, true, true] rfl rfl (any_of HT_.out (by kernel_rfl)) (fun _ _ _ h => h) (Or.inl ⟨by rfl, ?_⟩) ?_ ?_
                  rotate_left
                  ·intro w'
                   go_simp
                   with_reducible rfl
                  rotate_left
                  ·simp only [Act.put, List.setIfInBounds_toArray, List.set_cons_zero, List.set_cons_succ, i64_w, i32_w]
                   rfl
                  refine done_ (done_of HT_.out (by kernel_rfl)) ?_
                  try go_wp2
                  go_meet
                  case rel => exact ⟨_, H', ⟨by have := HJ4.out;have := HJ24.out;have := HJ62.out;first|omega|exact Nat.le_refl _⟩, ⟨by (with_reducible repeat (first|apply Kd.R_alloc|apply Kd.R_drewN|apply Kd.R_drew));exact HO_9.out⟩, ⟨by (with_reducible repeat (first|refine blk_drewN ?_ _|refine blk_drew ?_|refine blk_alloc ?_ _));exact BK101.out⟩, ⟨by (with_reducible repeat (first|refine blk_drewN ?_ _|refine blk_drew ?_|refine blk_alloc ?_ _));exact BK113.out⟩, ⟨by (with_reducible repeat (first|refine blk_drewN ?_ _|refine blk_drew ?_|refine blk_alloc ?_ _));exact BK134.out⟩, ⟨by repeat (first|(with_reducible first|exact HB.out|apply below_alloc|apply pw_below_drewN|apply below_drew1|refine below_set ?_ GE101.out|refine below_set ?_ GE113.out|refine below_set ?_ GE134.out)|exact HB.out)⟩⟩
                 ·replace c81 := Bool.eq_false_iff.mpr c81
                  subst c81
                  have H1 : (some false) = some r := by rw [if_neg (show ¬ (false = true) by decide)] at H;exact H
                  clear H
                  have H := H1
                  clear H1
                  exact absurd ((Option.some.inj H).trans ht_.out) (by simp)
                ·rw [if_neg c80] at H
                 have c80b0 : (t106 == (ji70)) = false := beq_eq_false_iff_ne.mpr c80
                 have c80b1 : (t106 != (ji70)) = true := bne_iff_ne.mpr c80
                 exact absurd ((Option.some.inj H).trans ht_.out) (by simp)
              ·rw [if_neg c72] at H
               exact absurd H (by simp)
             ·rw [if_neg c71] at H
              exact absurd H (by simp)
          case rest => as_aux_lemma =>
           clear HC65
           try clear c1
           try clear p1
           try clear q1
           try clear hx1
           try clear c2
           try clear p2
           try clear c3
           try clear c5
           try clear c6
           try clear p6
           try clear c7
           try clear c7b0
           try clear c7b1
           try clear c8
           try clear c10
           try clear c12
           try clear p13
           try clear q13
           try clear hx13
           try clear c18
           try clear c26
           try clear c27
           try clear c28
           try clear c29
           try clear c30
           try clear c31
           try clear c33
           try clear c34
           try clear c35
           try clear c36
           try clear c51
           try clear c52
           try clear c54
           try clear c54b0
           try clear c54b1
           try clear c55
           try clear c55b0
           try clear c55b1
           try clear c55b2
           try clear c56
           try clear c56b0
           try clear c57
           try clear c58
           try clear c60
           try clear c62
           try clear c64
           try clear p64
           try clear c66
           try clear c67
           try clear c67b0
           try clear c67b1
           try clear c68
           try clear c69
           try clear c69b0
           try clear c69b1
           try clear c71
           try clear c71b0
           try clear c72
           try clear c72b0
           try clear c73
           try clear c73b0
           try clear c74
           try clear c74b0
           try clear c74b1
           try clear c75
           try clear c76
           try clear c77
           try clear c80
           try clear c80b0
           try clear c80b1
           try clear c81
           try clear c82
           try clear c83
           try clear hcz26_0
           try clear hcz26_1
           try clear hcz28_0
           try clear hcz28_1
           try clear hcz30_0
           try clear hcz30_1
           try clear hcz32_0
           try clear hcz32_1
           try clear hcz36_0
           try clear hcz36_1
           try clear hcz37_0
           try clear hcz37_1
           try clear hcz46_0
           try clear hcz46_1
           try clear hcz53_0
           try clear hcz53_1
           try clear hcz59_0
           try clear hcz59_1
           try clear hcz61_0
           try clear hcz61_1
           try clear hcz78_0
           try clear hcz78_1
           try clear hcz84_0
           try clear hcz84_1
           try clear hcz8_0
           try clear hcz8_1
           try clear hcz9_0
           try clear hcz9_1
           try clear hfz26_0
           try clear hfz26_1
           try clear hfz28_0
           try clear hfz28_1
           try clear hfz30_0
           try clear hfz30_1
           try clear hfz32_0
           try clear hfz32_1
           try clear hfz36_0
           try clear hfz36_1
           try clear hfz37_0
           try clear hfz37_1
           try clear hfz46_0
           try clear hfz46_1
           try clear hfz53_0
           try clear hfz53_1
           try clear hfz59_0
           try clear hfz59_1
           try clear hfz61_0
           try clear hfz61_1
           try clear hfz78_0
           try clear hfz78_1
           try clear hfz84_0
           try clear hfz84_1
           try clear hfz8_0
           try clear hfz8_1
           try clear hfz9_0
           try clear hfz9_1
           try clear hx135_0
           try clear hx135_1
           try clear hx136_0
           try clear hx136_1
           try clear p135
           try clear p136
           try clear p2
           try clear q135
           try clear q136
           obtain ⟨kq, HA, HJ64, HO_9, BK101, BK113, BK134, HB⟩ := hcut
           cases kq with
           | zero => exact absurd HA.out (by simp [tombolalaw12_AliasPicks.j3])
           | succ kj64 =>
            have H := HA.out
            clear HA
            simp only [tombolalaw12_AliasPicks.j3] at H
            replace H := Option.bind_eq_some_iff.mp H
            obtain ⟨⟨t137, t138⟩, A860, H⟩ := H
            replace H : (if t138 = true then (if t137 = a0_0 then (tombolalaw12_AliasPicks.j4 kj64 l3 t103 ((l3.length : Int) == (t103.length : Int)) a0_0 l0_1) else (tombolalaw12_AliasPicks.j4 kj64 l3 t103 false a0_0 l0_1)) else (tombolalaw12_AliasPicks.j4 kj64 l3 t103 false a0_0 l0_1)) = some r := H
            have A86 := Aside0.mk A860
            clear A860
            have HC87 := Aside0.mk H
            clear H
            go_upto_region 22 with (first|((with_reducible refine gate_callee (f := 37) rfl ?_);refine goesL_ (some 170) rfl rfl Try.func37 (by kernel_rfl) rfl #[.slice A3 l3.length c3] rfl (by (try simp only [List.map_toArray, List.map_cons, List.map_nil]);first|done|rfl|(simp only [List.length_drop, List.length_take];rfl)) ?_;(with_reducible refine (tombolaref09_Total.calls kj64 _ _ l3 t137 t138 _ ?side1 ?side2 A86.out).mono ?_);(case side1 => repeat (first|exact (Kd.C_below HR3.out HB.out)|(with_reducible refine Kd.C_alloc ?_ _)|(with_reducible refine Kd.C_drewN ?_ _)|(with_reducible refine Kd.C_drew ?_)));(case side2 => exact HC3.out);rintro e w88 ⟨rfl, hb⟩;refine ⟨_, rfl, ?_⟩;have n0_ := Aside0.mk (Kd.R_below (by (with_reducible repeat (first|apply Kd.R_alloc|apply Kd.R_drewN|apply Kd.R_drew));exact HO_9.out) hb);have n1_ := Aside0.mk (blk_below (g := gb101) (o := .cells #[.int .u64 a0_0, .slice A0_1 l0_1.length c0_1] 53 (0, 0)) (by (with_reducible repeat (first|refine blk_drewN ?_ _|refine blk_drew ?_|refine blk_alloc ?_ _));exact BK101.out) hb);have n2_ := Aside0.mk (blk_below (g := gb113) (o := .cells #[.int .u64 t110, .int .u64 t111] 26 (0, 0)) (by (with_reducible repeat (first|refine blk_drewN ?_ _|refine blk_drew ?_|refine blk_alloc ?_ _));exact BK113.out) hb);have n3_ := Aside0.mk (blk_below (g := gb134) (o := .cells #[.int .u64 t131, .int .u64 t132] 26 (0, 0)) (by (with_reducible repeat (first|refine blk_drewN ?_ _|refine blk_drew ?_|refine blk_alloc ?_ _));exact BK134.out) hb);have n4_ := Aside0.mk (below_step (by repeat (first|(with_reducible first|exact HB.out|apply below_alloc|apply pw_below_drewN|apply below_drew1|refine below_set ?_ GE101.out|refine below_set ?_ GE113.out|refine below_set ?_ GE134.out)|exact HB.out)) hb);clear HO_9;clear BK101;clear BK113;clear BK134;clear HB;have HO_9 := n0_;have BK101 := n1_;have BK113 := n2_;have BK134 := n3_;have HB := n4_;clear n0_ n1_ n2_ n3_ n4_;(try clear hb);(try clear hb2);(try clear hk);(try clear hi)))
            (try simp only [Act.put, List.setIfInBounds_toArray, List.set_cons_zero, List.set_cons_succ])
            go_cut [23] (fun v23 wc => ∃ (kq : Nat) (x23_86 : Bool), v23 = .bool x23_86 ∧ Aside0 (tombolalaw12_AliasPicks.j4 kq l3 t103 x23_86 a0_0 l0_1 = some r) ∧ Aside0 (kq ≤ kj64) ∧ Aside0 (Kd.R k66 66 wc w.heap.size (fun _ => True) (.slice Ao38 t103.length co38) t103) ∧ Aside0 (wc.heap[gb101]? = some (.cells #[.int .u64 a0_0, (.slice A0_1 l0_1.length c0_1)] 53 (0, 0))) ∧ Aside0 (wc.heap[gb113]? = some (.cells #[.int .u64 t110, .int .u64 t111] 26 (0, 0))) ∧ Aside0 (wc.heap[gb134]? = some (.cells #[.int .u64 t131, .int .u64 t132] 26 (0, 0))) ∧ Aside0 (Below w.heap.size w wc))
            case first =>
             have H := HC87.out
             clear HC87
             by_cases c89 : t138 = true
             ·subst c89
              have H1 : (if t137 = a0_0 then (tombolalaw12_AliasPicks.j4 kj64 l3 t103 ((l3.length : Int) == (t103.length : Int)) a0_0 l0_1) else (tombolalaw12_AliasPicks.j4 kj64 l3 t103 false a0_0 l0_1)) = some r := by rw [if_pos rfl] at H;exact H
              clear H
              have H := H1
              clear H1
              by_cases c90 : t137 = a0_0
              ·rw [if_pos c90] at H
               have c90b0 : (t137 == a0_0) = true := beq_iff_eq.mpr c90
               have c90b1 : (t137 != a0_0) = false := bne_eq_false_iff_eq.mpr c90
               clear c90
               (first|rw [c90b0]|rw [c90b1]|(simp only [i64_w, i32_w];rw [c90b0])|skip)
               have H' := Aside0.mk H
               clear H
               have hnb91 := NB101_113.out
               have hnc91 := NB113_101.out
               have hnb92 := NB101_134.out
               have hnc92 := NB134_101.out
               have hcz93_0 : w88.cell? ⟨gb101, 0, none⟩ = some (.int .u64 a0_0) := (blk_cell BK101.out 0).trans rfl
               have hcz93_1 : w88.cell? ⟨gb101, 1, none⟩ = some (.slice A0_1 l0_1.length c0_1) := (blk_cell BK101.out 1).trans rfl
               have hfz93_0 := blk_frozen BK101.out 0
               have hfz93_1 := blk_frozen BK101.out 1
               go_wp2
               go_meet
               case rel => exact ⟨_, (((l3.length : Int) == (t103.length : Int))), (by first|rfl|(simp;done)|(simp [*];done)), H', ⟨by have := HJ4.out;have := HJ24.out;have := HJ62.out;have := HJ64.out;first|omega|exact Nat.le_refl _⟩, ⟨by (with_reducible repeat (first|apply Kd.R_alloc|apply Kd.R_drewN|apply Kd.R_drew));exact HO_9.out⟩, ⟨by (with_reducible repeat (first|refine blk_drewN ?_ _|refine blk_drew ?_|refine blk_alloc ?_ _));exact BK101.out⟩, ⟨by (with_reducible repeat (first|refine blk_drewN ?_ _|refine blk_drew ?_|refine blk_alloc ?_ _));exact BK113.out⟩, ⟨by (with_reducible repeat (first|refine blk_drewN ?_ _|refine blk_drew ?_|refine blk_alloc ?_ _));exact BK134.out⟩, ⟨by repeat (first|(with_reducible first|exact HB.out|apply below_alloc|apply pw_below_drewN|apply below_drew1|refine below_set ?_ GE101.out|refine below_set ?_ GE113.out|refine below_set ?_ GE134.out)|exact HB.out)⟩⟩
              ·rw [if_neg c90] at H
               have c90b0 : (t137 == a0_0) = false := beq_eq_false_iff_ne.mpr c90
               have c90b1 : (t137 != a0_0) = true := bne_iff_ne.mpr c90
               (first|rw [c90b0]|rw [c90b1]|(simp only [i64_w, i32_w];rw [c90b0])|skip)
               have H' := Aside0.mk H
               clear H
               have hnb94 := NB101_113.out
               have hnc94 := NB113_101.out
               have hnb95 := NB101_134.out
               have hnc95 := NB134_101.out
               have hcz96_0 : w88.cell? ⟨gb101, 0, none⟩ = some (.int .u64 a0_0) := (blk_cell BK101.out 0).trans rfl
               have hcz96_1 : w88.cell? ⟨gb101, 1, none⟩ = some (.slice A0_1 l0_1.length c0_1) := (blk_cell BK101.out 1).trans rfl
               have hfz96_0 := blk_frozen BK101.out 0
               have hfz96_1 := blk_frozen BK101.out 1
               go_wp2
               go_meet
               case rel => exact ⟨_, (false), (by first|rfl|(simp;done)|(simp [*];done)), H', ⟨by have := HJ4.out;have := HJ24.out;have := HJ62.out;have := HJ64.out;first|omega|exact Nat.le_refl _⟩, ⟨by (with_reducible repeat (first|apply Kd.R_alloc|apply Kd.R_drewN|apply Kd.R_drew));exact HO_9.out⟩, ⟨by (with_reducible repeat (first|refine blk_drewN ?_ _|refine blk_drew ?_|refine blk_alloc ?_ _));exact BK101.out⟩, ⟨by (with_reducible repeat (first|refine blk_drewN ?_ _|refine blk_drew ?_|refine blk_alloc ?_ _));exact BK113.out⟩, ⟨by (with_reducible repeat (first|refine blk_drewN ?_ _|refine blk_drew ?_|refine blk_alloc ?_ _));exact BK134.out⟩, ⟨by repeat (first|(with_reducible first|exact HB.out|apply below_alloc|apply pw_below_drewN|apply below_drew1|refine below_set ?_ GE101.out|refine below_set ?_ GE113.out|refine below_set ?_ GE134.out)|exact HB.out)⟩⟩
             ·replace c89 := Bool.eq_false_iff.mpr c89
              subst c89
              have H1 : (tombolalaw12_AliasPicks.j4 kj64 l3 t103 false a0_0 l0_1) = some r := by rw [if_neg (show ¬ (false = true) by decide)] at H;exact H
              clear H
              have H := H1
              clear H1
              have H' := Aside0.mk H
              clear H
              go_wp2
              go_meet
              case rel => exact ⟨_, (false), (by first|rfl|(simp;done)|(simp [*];done)), H', ⟨by have := HJ4.out;have := HJ24.out;have := HJ62.out;have := HJ64.out;first|omega|exact Nat.le_refl _⟩, ⟨by (with_reducible repeat (first|apply Kd.R_alloc|apply Kd.R_drewN|apply Kd.R_drew));exact HO_9.out⟩, ⟨by (with_reducible repeat (first|refine blk_drewN ?_ _|refine blk_drew ?_|refine blk_alloc ?_ _));exact BK101.out⟩, ⟨by (with_reducible repeat (first|refine blk_drewN ?_ _|refine blk_drew ?_|refine blk_alloc ?_ _));exact BK113.out⟩, ⟨by (with_reducible repeat (first|refine blk_drewN ?_ _|refine blk_drew ?_|refine blk_alloc ?_ _));exact BK134.out⟩, ⟨by repeat (first|(with_reducible first|exact HB.out|apply below_alloc|apply pw_below_drewN|apply below_drew1|refine below_set ?_ GE101.out|refine below_set ?_ GE113.out|refine below_set ?_ GE134.out)|exact HB.out)⟩⟩
            case rest => as_aux_lemma =>
             clear HC87
             try clear c1
             try clear p1
             try clear q1
             try clear hx1
             try clear c2
             try clear p2
             try clear c3
             try clear c5
             try clear c6
             try clear p6
             try clear c7
             try clear c7b0
             try clear c7b1
             try clear c8
             try clear c9
             try clear c10
             try clear c12
             try clear p13
             try clear q13
             try clear hx13
             try clear c18
             try clear c26
             try clear c27
             try clear c28
             try clear c29
             try clear c30
             try clear c31
             try clear c33
             try clear c34
             try clear c35
             try clear c36
             try clear c37
             try clear c51
             try clear c52
             try clear c54
             try clear c54b0
             try clear c54b1
             try clear c55
             try clear c55b0
             try clear c55b1
             try clear c55b2
             try clear c56
             try clear c56b0
             try clear c57
             try clear c58
             try clear c60
             try clear c62
             try clear c64
             try clear p64
             try clear c66
             try clear c67
             try clear c67b0
             try clear c67b1
             try clear c68
             try clear c69
             try clear c69b0
             try clear c69b1
             try clear c71
             try clear c71b0
             try clear c72
             try clear c72b0
             try clear c73
             try clear c73b0
             try clear c74
             try clear c74b0
             try clear c74b1
             try clear c75
             try clear c76
             try clear c77
             try clear c80
             try clear c80b0
             try clear c80b1
             try clear c81
             try clear c82
             try clear c83
             try clear c89
             try clear c90
             try clear c90b0
             try clear c90b1
             try clear c91
             try clear c92
             try clear c94
             try clear c95
             try clear hcz26_0
             try clear hcz26_1
             try clear hcz28_0
             try clear hcz28_1
             try clear hcz30_0
             try clear hcz30_1
             try clear hcz32_0
             try clear hcz32_1
             try clear hcz36_0
             try clear hcz36_1
             try clear hcz37_0
             try clear hcz37_1
             try clear hcz46_0
             try clear hcz46_1
             try clear hcz53_0
             try clear hcz53_1
             try clear hcz59_0
             try clear hcz59_1
             try clear hcz61_0
             try clear hcz61_1
             try clear hcz78_0
             try clear hcz78_1
             try clear hcz84_0
             try clear hcz84_1
             try clear hcz8_0
             try clear hcz8_1
             try clear hcz93_0
             try clear hcz93_1
             try clear hcz96_0
             try clear hcz96_1
             try clear hcz9_0
             try clear hcz9_1
             try clear hfz26_0
             try clear hfz26_1
             try clear hfz28_0
             try clear hfz28_1
             try clear hfz30_0
             try clear hfz30_1
             try clear hfz32_0
             try clear hfz32_1
             try clear hfz36_0
             try clear hfz36_1
             try clear hfz37_0
             try clear hfz37_1
             try clear hfz46_0
             try clear hfz46_1
             try clear hfz53_0
             try clear hfz53_1
             try clear hfz59_0
             try clear hfz59_1
             try clear hfz61_0
             try clear hfz61_1
             try clear hfz78_0
             try clear hfz78_1
             try clear hfz84_0
             try clear hfz84_1
             try clear hfz8_0
             try clear hfz8_1
             try clear hfz93_0
             try clear hfz93_1
             try clear hfz96_0
             try clear hfz96_1
             try clear hfz9_0
             try clear hfz9_1
             try clear hx135_0
             try clear hx135_1
             try clear hx136_0
             try clear hx136_1
             try clear p1
             try clear p13
             try clear p135
             try clear p136
             try clear p2
             try clear p6
             try clear p64
             try clear q1
             try clear q13
             try clear q135
             try clear q136
             obtain ⟨kq, x23_86, rfl, HA, HJ86, HO_9, BK101, BK113, BK134, HB⟩ := hcut
             cases kq with
             | zero => exact absurd HA.out (by simp [tombolalaw12_AliasPicks.j4])
             | succ kj86 =>
              have H := HA.out
              clear HA
              simp only [tombolalaw12_AliasPicks.j4] at H
              have H' := Aside0.mk H
              clear H
              go_wp2
              go_loopg [23, 24] kj86 (fun kq v23 v24 w' => ∃ (x23_6 : Bool) (x24_6 : Int), v23 = .bool x23_6 ∧ v24 = .int .i64 x24_6 ∧ Aside0 (tombolalaw12_AliasPicks.l0 kq l3 t103 x23_6 x24_6 a0_0 l0_1 = some r) ∧ Aside0 (kq ≤ kj86) ∧ Aside0 (Kd.R k66 66 w' w.heap.size (fun _ => True) (.slice Ao38 t103.length co38) t103) ∧ Aside0 (w'.heap[gb101]? = some (.cells #[.int .u64 a0_0, (.slice A0_1 l0_1.length c0_1)] 53 (0, 0))) ∧ Aside0 (w'.heap[gb113]? = some (.cells #[.int .u64 t110, .int .u64 t111] 26 (0, 0))) ∧ Aside0 (w'.heap[gb134]? = some (.cells #[.int .u64 t131, .int .u64 t132] 26 (0, 0))) ∧ Aside0 (Below w.heap.size w w'))
              case atStart => exact ⟨(x23_86), (0), (by first|rfl|(simp;done)|(simp [*];done)), (by first|rfl|(simp;done)|(simp [*];done)), H', ⟨Nat.le_refl _⟩, ⟨by (with_reducible repeat (first|apply Kd.R_alloc|apply Kd.R_drewN|apply Kd.R_drew));exact HO_9.out⟩, ⟨by (with_reducible repeat (first|refine blk_drewN ?_ _|refine blk_drew ?_|refine blk_alloc ?_ _));exact BK101.out⟩, ⟨by (with_reducible repeat (first|refine blk_drewN ?_ _|refine blk_drew ?_|refine blk_alloc ?_ _));exact BK113.out⟩, ⟨by (with_reducible repeat (first|refine blk_drewN ?_ _|refine blk_drew ?_|refine blk_alloc ?_ _));exact BK134.out⟩, ⟨by repeat (first|(with_reducible first|exact HB.out|apply below_alloc|apply pw_below_drewN|apply below_drew1|refine below_set ?_ GE101.out|refine below_set ?_ GE113.out|refine below_set ?_ GE134.out)|exact HB.out)⟩⟩
              case round =>
               clear H'
               try clear c1
               try clear p1
               try clear q1
               try clear hx1
               try clear c2
               try clear p2
               try clear c3
               try clear c5
               try clear c6
               try clear p6
               try clear c7
               try clear c7b0
               try clear c7b1
               try clear c8
               try clear c9
               try clear c10
               try clear c12
               try clear p13
               try clear q13
               try clear hx13
               try clear c18
               try clear c26
               try clear c27
               try clear c28
               try clear c29
               try clear c30
               try clear c31
               try clear c33
               try clear c34
               try clear c35
               try clear c36
               try clear c37
               try clear c51
               try clear c52
               try clear c54
               try clear c54b0
               try clear c54b1
               try clear c55
               try clear c55b0
               try clear c55b1
               try clear c55b2
               try clear c56
               try clear c56b0
               try clear c57
               try clear c58
               try clear c60
               try clear c62
               try clear c64
               try clear p64
               try clear c66
               try clear c67
               try clear c67b0
               try clear c67b1
               try clear c68
               try clear c69
               try clear c69b0
               try clear c69b1
               try clear c71
               try clear c71b0
               try clear c72
               try clear c72b0
               try clear c73
               try clear c73b0
               try clear c74
               try clear c74b0
               try clear c74b1
               try clear c75
               try clear c76
               try clear c77
               try clear c80
               try clear c80b0
               try clear c80b1
               try clear c81
               try clear c82
               try clear c83
               try clear c89
               try clear c90
               try clear c90b0
               try clear c90b1
               try clear c91
               try clear c92
               try clear c94
               try clear c95
               try clear hcz26_0
               try clear hcz26_1
               try clear hcz28_0
               try clear hcz28_1
               try clear hcz30_0
               try clear hcz30_1
               try clear hcz32_0
               try clear hcz32_1
               try clear hcz36_0
               try clear hcz36_1
               try clear hcz37_0
               try clear hcz37_1
               try clear hcz46_0
               try clear hcz46_1
               try clear hcz53_0
               try clear hcz53_1
               try clear hcz59_0
               try clear hcz59_1
               try clear hcz61_0
               try clear hcz61_1
               try clear hcz78_0
               try clear hcz78_1
               try clear hcz84_0
               try clear hcz84_1
               try clear hcz8_0
               try clear hcz8_1
               try clear hcz93_0
               try clear hcz93_1
               try clear hcz96_0
               try clear hcz96_1
               try clear hcz9_0
               try clear hcz9_1
               try clear hfz26_0
               try clear hfz26_1
               try clear hfz28_0
               try clear hfz28_1
               try clear hfz30_0
               try clear hfz30_1
               try clear hfz32_0
               try clear hfz32_1
               try clear hfz36_0
               try clear hfz36_1
               try clear hfz37_0
               try clear hfz37_1
               try clear hfz46_0
               try clear hfz46_1
               try clear hfz53_0
               try clear hfz53_1
               try clear hfz59_0
               try clear hfz59_1
               try clear hfz61_0
               try clear hfz61_1
               try clear hfz78_0
               try clear hfz78_1
               try clear hfz84_0
               try clear hfz84_1
               try clear hfz8_0
               try clear hfz8_1
               try clear hfz93_0
               try clear hfz93_1
               try clear hfz96_0
               try clear hfz96_1
               try clear hfz9_0
               try clear hfz9_1
               try clear hx135_0
               try clear hx135_1
               try clear hx136_0
               try clear hx136_1
               try clear p1
               try clear p13
               try clear p135
               try clear p136
               try clear p2
               try clear p6
               try clear p64
               try clear q1
               try clear q13
               try clear q135
               try clear q136
               obtain ⟨x23_6, x24_6, rfl, rfl, HA, HK6, HO_9, BK101, BK113, BK134, HB⟩ := hrel
               cases gk with
               | zero => exact absurd HA.out (by simp [tombolalaw12_AliasPicks.l0])
               | succ k6 =>
                have H := HA.out
                clear HA
                simp only [tombolalaw12_AliasPicks.l0] at H
                have HC97 := Aside0.mk H
                clear H
                go_upto_region 24 with (fail)
                go_cut [193] (fun v193 wc => ∃ (kq : Nat) (x193_96 : Bool), v193 = .bool x193_96 ∧ Aside0 (tombolalaw12_AliasPicks.j6 kq l3 t103 x23_6 x24_6 x193_96 a0_0 l0_1 = some r) ∧ Aside0 (kq ≤ k6) ∧ Aside0 (Kd.R k66 66 wc w.heap.size (fun _ => True) (.slice Ao38 t103.length co38) t103) ∧ Aside0 (wc.heap[gb101]? = some (.cells #[.int .u64 a0_0, (.slice A0_1 l0_1.length c0_1)] 53 (0, 0))) ∧ Aside0 (wc.heap[gb113]? = some (.cells #[.int .u64 t110, .int .u64 t111] 26 (0, 0))) ∧ Aside0 (wc.heap[gb134]? = some (.cells #[.int .u64 t131, .int .u64 t132] 26 (0, 0))) ∧ Aside0 (Below w.heap.size w wc))
                case first =>
                 have H := HC97.out
                 clear HC97
                 by_cases c98 : x24_6 < (l3.length : Int)
                 ·rw [if_pos c98] at H
                  have c98b0 : decide (x24_6 < (l3.length : Int)) = true := decide_eq_true c98
                  clear c98
                  (first|rw [c98b0]|rw [c98b1]|(simp only [i64_w, i32_w];rw [c98b0])|skip)
                  have H' := Aside0.mk H
                  clear H
                  go_wp2
                  go_meet
                  case rel => exact ⟨_, (x23_6), (by first|rfl|(simp;done)|(simp [*];done)), H', ⟨by have := HJ4.out;have := HJ24.out;have := HJ62.out;have := HJ64.out;have := HJ86.out;have := HK6.out;first|omega|exact Nat.le_refl _⟩, ⟨by (with_reducible repeat (first|apply Kd.R_alloc|apply Kd.R_drewN|apply Kd.R_drew));exact HO_9.out⟩, ⟨by (with_reducible repeat (first|refine blk_drewN ?_ _|refine blk_drew ?_|refine blk_alloc ?_ _));exact BK101.out⟩, ⟨by (with_reducible repeat (first|refine blk_drewN ?_ _|refine blk_drew ?_|refine blk_alloc ?_ _));exact BK113.out⟩, ⟨by (with_reducible repeat (first|refine blk_drewN ?_ _|refine blk_drew ?_|refine blk_alloc ?_ _));exact BK134.out⟩, ⟨by repeat (first|(with_reducible first|exact HB.out|apply below_alloc|apply pw_below_drewN|apply below_drew1|refine below_set ?_ GE101.out|refine below_set ?_ GE113.out|refine below_set ?_ GE134.out)|exact HB.out)⟩⟩
                 ·rw [if_neg c98] at H
                  have c98b0 : decide (x24_6 < (l3.length : Int)) = false := decide_eq_false c98
                  clear c98
                  (first|rw [c98b0]|rw [c98b1]|(simp only [i64_w, i32_w];rw [c98b0])|skip)
                  have H' := Aside0.mk H
                  clear H
                  go_wp2
                  go_meet
                  case rel => exact ⟨_, (false), (by first|rfl|(simp;done)|(simp [*];done)), H', ⟨by have := HJ4.out;have := HJ24.out;have := HJ62.out;have := HJ64.out;have := HJ86.out;have := HK6.out;first|omega|exact Nat.le_refl _⟩, ⟨by (with_reducible repeat (first|apply Kd.R_alloc|apply Kd.R_drewN|apply Kd.R_drew));exact HO_9.out⟩, ⟨by (with_reducible repeat (first|refine blk_drewN ?_ _|refine blk_drew ?_|refine blk_alloc ?_ _));exact BK101.out⟩, ⟨by (with_reducible repeat (first|refine blk_drewN ?_ _|refine blk_drew ?_|refine blk_alloc ?_ _));exact BK113.out⟩, ⟨by (with_reducible repeat (first|refine blk_drewN ?_ _|refine blk_drew ?_|refine blk_alloc ?_ _));exact BK134.out⟩, ⟨by repeat (first|(with_reducible first|exact HB.out|apply below_alloc|apply pw_below_drewN|apply below_drew1|refine below_set ?_ GE101.out|refine below_set ?_ GE113.out|refine below_set ?_ GE134.out)|exact HB.out)⟩⟩
                case rest => as_aux_lemma =>
                 clear HC97
                 try clear c1
                 try clear p1
                 try clear q1
                 try clear hx1
                 try clear c2
                 try clear p2
                 try clear c3
                 try clear c5
                 try clear c6
                 try clear p6
                 try clear c7
                 try clear c7b0
                 try clear c7b1
                 try clear c8
                 try clear c9
                 try clear c10
                 try clear c12
                 try clear p13
                 try clear q13
                 try clear hx13
                 try clear c18
                 try clear c26
                 try clear c27
                 try clear c28
                 try clear c29
                 try clear c30
                 try clear c31
                 try clear c33
                 try clear c34
                 try clear c35
                 try clear c36
                 try clear c37
                 try clear c51
                 try clear c52
                 try clear c54
                 try clear c54b0
                 try clear c54b1
                 try clear c55
                 try clear c55b0
                 try clear c55b1
                 try clear c55b2
                 try clear c56
                 try clear c56b0
                 try clear c57
                 try clear c58
                 try clear c60
                 try clear c62
                 try clear c64
                 try clear p64
                 try clear c66
                 try clear c67
                 try clear c67b0
                 try clear c67b1
                 try clear c68
                 try clear c69
                 try clear c69b0
                 try clear c69b1
                 try clear c71
                 try clear c71b0
                 try clear c72
                 try clear c72b0
                 try clear c73
                 try clear c73b0
                 try clear c74
                 try clear c74b0
                 try clear c74b1
                 try clear c75
                 try clear c76
                 try clear c77
                 try clear c80
                 try clear c80b0
                 try clear c80b1
                 try clear c81
                 try clear c82
                 try clear c83
                 try clear c89
                 try clear c90
                 try clear c90b0
                 try clear c90b1
                 try clear c91
                 try clear c92
                 try clear c94
                 try clear c95
                 try clear c98
                 try clear c98b0
                 try clear c98b1
                 try clear hcz26_0
                 try clear hcz26_1
                 try clear hcz28_0
                 try clear hcz28_1
                 try clear hcz30_0
                 try clear hcz30_1
                 try clear hcz32_0
                 try clear hcz32_1
                 try clear hcz36_0
                 try clear hcz36_1
                 try clear hcz37_0
                 try clear hcz37_1
                 try clear hcz46_0
                 try clear hcz46_1
                 try clear hcz53_0
                 try clear hcz53_1
                 try clear hcz59_0
                 try clear hcz59_1
                 try clear hcz61_0
                 try clear hcz61_1
                 try clear hcz78_0
                 try clear hcz78_1
                 try clear hcz84_0
                 try clear hcz84_1
                 try clear hcz8_0
                 try clear hcz8_1
                 try clear hcz93_0
                 try clear hcz93_1
                 try clear hcz96_0
                 try clear hcz96_1
                 try clear hcz9_0
                 try clear hcz9_1
                 try clear hfz26_0
                 try clear hfz26_1
                 try clear hfz28_0
                 try clear hfz28_1
                 try clear hfz30_0
                 try clear hfz30_1
                 try clear hfz32_0
                 try clear hfz32_1
                 try clear hfz36_0
                 try clear hfz36_1
                 try clear hfz37_0
                 try clear hfz37_1
                 try clear hfz46_0
                 try clear hfz46_1
                 try clear hfz53_0
                 try clear hfz53_1
                 try clear hfz59_0
                 try clear hfz59_1
                 try clear hfz61_0
                 try clear hfz61_1
                 try clear hfz78_0
                 try clear hfz78_1
                 try clear hfz84_0
                 try clear hfz84_1
                 try clear hfz8_0
                 try clear hfz8_1
                 try clear hfz93_0
                 try clear hfz93_1
                 try clear hfz96_0
                 try clear hfz96_1
                 try clear hfz9_0
                 try clear hfz9_1
                 try clear hx135_0
                 try clear hx135_1
                 try clear hx136_0
                 try clear hx136_1
                 try clear p1
                 try clear p13
                 try clear p135
                 try clear p136
                 try clear p2
                 try clear p6
                 try clear p64
                 try clear q1
                 try clear q13
                 try clear q135
                 try clear q136
                 obtain ⟨kq, x193_96, rfl, HA, HJ96, HO_9, BK101, BK113, BK134, HB⟩ := hcut
                 cases kq with
                 | zero => exact absurd HA.out (by simp [tombolalaw12_AliasPicks.j6])
                 | succ kj96 =>
                  have H := HA.out
                  clear HA
                  simp only [tombolalaw12_AliasPicks.j6] at H
                  by_cases c99 : x193_96 = true
                  ·subst c99
                   have H1 : ((tombolaref12_Count.f kj96 a0_0 t103 x24_6).bind fun t141 => (if 0 ≤ x24_6 then (if x24_6 < (l3.length : Int) then ((tombolaref01_Of.f kj96 (rd l3 x24_6)).bind fun t145 => ((tombolaref01_Of.f kj96 (IntKind.u64.wrap ((l3.length : Int)))).bind fun t148 => ((tombolaref01_Mul.f kj96 t145 t148).bind fun t151 => ((tombolaref01_Cmp.f kj96 t141 t151).bind fun t154 => (tombolalaw12_AliasPicks.l0 kj96 l3 t103 (t154 == 0) (wrap64 (x24_6 + 1)) a0_0 l0_1))))) else (none)) else (none))) = some r := by rw [if_pos rfl] at H;exact H
                   clear H
                   have H := H1
                   clear H1
                   replace H := Option.bind_eq_some_iff.mp H
                   obtain ⟨t141, A1000, H⟩ := H
                   replace H : (if 0 ≤ x24_6 then (if x24_6 < (l3.length : Int) then ((tombolaref01_Of.f kj96 (rd l3 x24_6)).bind fun t145 => ((tombolaref01_Of.f kj96 (IntKind.u64.wrap ((l3.length : Int)))).bind fun t148 => ((tombolaref01_Mul.f kj96 t145 t148).bind fun t151 => ((tombolaref01_Cmp.f kj96 t141 t151).bind fun t154 => (tombolalaw12_AliasPicks.l0 kj96 l3 t103 (t154 == 0) (wrap64 (x24_6 + 1)) a0_0 l0_1))))) else (none)) else (none)) = some r := H
                   have A100 := Aside0.mk A1000
                   clear A1000
                   by_cases c101 : 0 ≤ x24_6
                   ·rw [if_pos c101] at H
                    have c101b0 : decide (0 ≤ x24_6) = true := decide_eq_true c101
                    clear c101
                    by_cases c102 : x24_6 < (l3.length : Int)
                    ·rw [if_pos c102] at H
                     have c102b0 : decide (x24_6 < (l3.length : Int)) = true := decide_eq_true c102
                     clear c102
                     replace H := Option.bind_eq_some_iff.mp H
                     obtain ⟨t145, A1030, H⟩ := H
                     replace H : ((tombolaref01_Of.f kj96 (IntKind.u64.wrap ((l3.length : Int)))).bind fun t148 => ((tombolaref01_Mul.f kj96 t145 t148).bind fun t151 => ((tombolaref01_Cmp.f kj96 t141 t151).bind fun t154 => (tombolalaw12_AliasPicks.l0 kj96 l3 t103 (t154 == 0) (wrap64 (x24_6 + 1)) a0_0 l0_1)))) = some r := H
                     have A103 := Aside0.mk A1030
                     clear A1030
                     replace H := Option.bind_eq_some_iff.mp H
                     obtain ⟨t148, A1040, H⟩ := H
                     replace H : ((tombolaref01_Mul.f kj96 t145 t148).bind fun t151 => ((tombolaref01_Cmp.f kj96 t141 t151).bind fun t154 => (tombolalaw12_AliasPicks.l0 kj96 l3 t103 (t154 == 0) (wrap64 (x24_6 + 1)) a0_0 l0_1))) = some r := H
                     have A104 := Aside0.mk A1040
                     clear A1040
                     replace H := Option.bind_eq_some_iff.mp H
                     obtain ⟨t151, A1050, H⟩ := H
                     replace H : ((tombolaref01_Cmp.f kj96 t141 t151).bind fun t154 => (tombolalaw12_AliasPicks.l0 kj96 l3 t103 (t154 == 0) (wrap64 (x24_6 + 1)) a0_0 l0_1)) = some r := H
                     have A105 := Aside0.mk A1050
                     clear A1050
                     replace H := Option.bind_eq_some_iff.mp H
                     obtain ⟨t154, A1060, H⟩ := H
                     replace H : (tombolalaw12_AliasPicks.l0 kj96 l3 t103 (t154 == 0) (wrap64 (x24_6 + 1)) a0_0 l0_1) = some r := H
                     have A106 := Aside0.mk A1060
                     clear A1060
                     have H' := Aside0.mk H
                     clear H
                     try go_wp2
                     have n0_ := Aside0.mk (Kd.R_drew HO_9.out)
                     have n1_ := Aside0.mk (blk_drew BK101.out)
                     have n2_ := Aside0.mk (blk_drew BK113.out)
                     have n3_ := Aside0.mk (blk_drew BK134.out)
                     have n4_ := Aside0.mk (below_drew1 HB.out)
                     clear HO_9
                     clear BK101
                     clear BK113
                     clear BK134
                     clear HB
                     have HO_9 := n0_
                     have BK101 := n1_
                     have BK113 := n2_
                     have BK134 := n3_
                     have HB := n4_
                     clear n0_ n1_ n2_ n3_ n4_
                     have p144 : 0 ≤ (x24_6 : Int) := of_decide_eq_true (by first|(with_reducible assumption)|assumption)
                     have q144 : x24_6 < (l3.length : Int) := of_decide_eq_true (by first|(with_reducible assumption)|assumption)
                     obtain ⟨ad144, e144, hx144_0⟩ := Kd.at_int HR3.out x24_6 p144 q144
                     have hw144_0 := hx144_0
                     cases e144
                     replace hx144_0 := (HB.out.cell (World.block_lt_of_cell? w _ hx144_0)).trans hx144_0
                     replace p144 := eq_true p144
                     replace q144 := eq_true q144
                     refine start_ (n := 18) (S := fun w' => w'.cell? ⟨gb101, 0, none⟩ = some (.int .u64 a0_0) ∧ w'.cell? ⟨gb101, 1, none⟩ = some (.slice A0_1 l0_1.length c0_1) ∧ w'.cell? (ad144.add (x24_6).toNat) = some (.int .u64 (rd l3 x24_6))) (ds := []) #[false, false, false, false, false, false, false, false, false, false, false, false, false, false, false, false, false, false] (by kernel_rfl) rfl rfl ⟨(blk_cell BK101.out 0).trans rfl, (blk_cell BK101.out 1).trans rfl, ((HB.out.cell (World.block_lt_of_cell? w _ hw144_0)).trans hw144_0)⟩ (fun hHeld => ?_);refine with_tabW tombolalaw12_AliasPicks.tab26 tombolalaw12_AliasPicks.bits26 (fun HT_ HW_ => ?_)
                     generalize wc.drew = w107 at HO_9 BK101 BK113 BK134 HB hx144_0 hHeld ⊢
                     refine pure_ (i := 0) (N := some 196) (v := ?_) (a' := ?_) #[true, false, false, false, false, false, false, false, false, false, false, false, false, false, false, false, false, false] rfl rfl (any_of HT_.out (by kernel_rfl)) (fun _ _ _ h => h) (Or.inl ⟨by rfl, ?_⟩) ?_ ?_
                     rotate_left
                     ·intro w'
                      go_simp
                      with_reducible rfl
                     rotate_left
                     ·simp only [Act.put, List.setIfInBounds_toArray, List.set_cons_zero, List.set_cons_succ, i64_w, i32_w]
                      rfl
                     refine pure_ (i := 2) (N := some 198) (v := ?_) (a' := ?_) #[true, false, true, false, false, false, false, false, false, false, false, false, false, false, false, false, false, false] rfl rfl (any_of HT_.out (by kernel_rfl)) (fun _ _ _ h => h) (Or.inl ⟨by rfl, ?_⟩) ?_ ?_
                     rotate_left
                     ·intro w'
                      go_simp
                      with_reducible rfl
                     rotate_left
                     ·simp only [Act.put, List.setIfInBounds_toArray, List.set_cons_zero, List.set_cons_succ, i64_w, i32_w]
                      rfl
                     refine pure_ (i := 3) (N := some 199) (v := ?_) (a' := ?_) #[true, false, true, true, false, false, false, false, false, false, false, false, false, false, false, false, false, false] rfl rfl (any_of HT_.out (by kernel_rfl)) (fun _ _ _ h => h) (Or.inl ⟨by rfl, ?_⟩) ?_ ?_
                     rotate_left
                     ·intro w'
                      go_simp
                      with_reducible rfl
                     rotate_left
                     ·simp only [Act.put, List.setIfInBounds_toArray, List.set_cons_zero, List.set_cons_succ, i64_w, i32_w]
                      rfl
                     refine pure_ (i := 5) (N := some 201) (v := ?_) (a' := ?_) #[true, false, true, true, false, true, false, false, false, false, false, false, false, false, false, false, false, false] rfl rfl (any_of HT_.out (by kernel_rfl)) (fun _ _ _ h => h) (Or.inl ⟨by rfl, ?_⟩) ?_ ?_
                     rotate_left
                     ·intro w'
                      go_simp
                      with_reducible rfl
                     rotate_left
                     ·simp only [Act.put, List.setIfInBounds_toArray, List.set_cons_zero, List.set_cons_succ, i64_w, i32_w]
                      rfl
                     refine pure_ (i := 6) (N := some 202) (v := ?_) (a' := ?_) #[true, false, true, true, false, true, true, false, false, false, false, false, false, false, false, false, false, false] rfl rfl (any_of HT_.out (by kernel_rfl)) (fun _ _ _ h => h) (Or.inl ⟨by rfl, ?_⟩) ?_ ?_
                     rotate_left
                     ·intro w'
                      go_simp
                      with_reducible rfl
                     rotate_left
                     ·simp only [Act.put, List.setIfInBounds_toArray, List.set_cons_zero, List.set_cons_succ, i64_w, i32_w]
                      rfl
                     refine pure_ (i := 7) (N := some 203) (v := ?_) (a' := ?_) #[true, false, true, true, false, true, true, true, false, false, false, false, false, false, false, false, false, false] rfl rfl (any_of HT_.out (by kernel_rfl)) (fun _ _ _ h => h) (Or.inl ⟨by rfl, ?_⟩) ?_ ?_
                     rotate_left
                     ·intro w'
                      go_simp
                      with_reducible rfl
                     rotate_left
                     ·simp only [Act.put, List.setIfInBounds_toArray, List.set_cons_zero, List.set_cons_succ, i64_w, i32_w]
                      rfl
                     refine pure_ (i := 10) (N := some 206) (v := ?_) (a' := ?_) #[true, false, true, true, false, true, true, true, false, false, true, false, false, false, false, false, false, false] rfl rfl (any_of HT_.out (by kernel_rfl)) (fun _ _ _ h => h) (Or.inl ⟨by rfl, ?_⟩) ?_ ?_
                     rotate_left
                     ·intro w'
                      go_simp
                      with_reducible rfl
                     rotate_left
                     ·simp only [Act.put, List.setIfInBounds_toArray, List.set_cons_zero, List.set_cons_succ, i64_w, i32_w]
                      rfl
                     refine pure_ (i := 11) (N := some 207) (v := ?_) (a' := ?_) #[true, false, true, true, false, true, true, true, false, false, true, true, false, false, false, false, false, false] rfl rfl (any_of HT_.out (by kernel_rfl)) (fun _ _ _ h => h) (Or.inl ⟨by rfl, ?_⟩) ?_ ?_
                     rotate_left
                     ·intro w'
                      go_simp
                      with_reducible rfl
                     rotate_left
                     ·simp only [Act.put, List.setIfInBounds_toArray, List.set_cons_zero, List.set_cons_succ, i64_w, i32_w]
                      rfl
                     refine pure_ (i := 12) (N := some 208) (v := ?_) (a' := ?_) #[true, false, true, true, false, true, true, true, false, false, true, true, true, false, false, false, false, false] rfl rfl (any_of HT_.out (by kernel_rfl)) (fun _ _ _ h => h) (Or.inl ⟨by rfl, ?_⟩) ?_ ?_
                     rotate_left
                     ·intro w'
                      go_simp
                      with_reducible rfl
                     rotate_left
                     ·simp only [Act.put, List.setIfInBounds_toArray, List.set_cons_zero, List.set_cons_succ, i64_w, i32_w]
                      rfl
                     refine take_ (i := 1) (N := some 197) (v := ?_) (a' := ?_) #[true, true, true, true, false, true, true, true, false, false, true, true, true, false, false, false, false, false] rfl rfl (take_ofW HT_.out HW_.out (by kernel_rfl)) (fun _ _ _ h => h) (Or.inl ⟨by rfl, ?_⟩) hHeld ?_ ?_
                     rotate_left
                     ·rintro w' ⟨s0, s1, s2⟩
                      go_simp
                      with_reducible rfl
                     rotate_left
                     ·simp only [Act.put, List.setIfInBounds_toArray, List.set_cons_zero, List.set_cons_succ, i64_w, i32_w]
                      rfl
                     refine take_ (i := 8) (N := some 204) (v := ?_) (a' := ?_) #[true, true, true, true, false, true, true, true, true, false, true, true, true, false, false, false, false, false] rfl rfl (take_ofW HT_.out HW_.out (by kernel_rfl)) (fun _ _ _ h => h) (Or.inl ⟨by rfl, ?_⟩) hHeld ?_ ?_
                     rotate_left
                     ·rintro w' ⟨s0, s1, s2⟩
                      go_simp
                      with_reducible rfl
                     rotate_left
                     ·simp only [Act.put, List.setIfInBounds_toArray, List.set_cons_zero, List.set_cons_succ, i64_w, i32_w]
                      rfl
                     refine one_ (i := 4) (N := some 200) #[true, true, true, true, true, true, true, true, true, false, true, true, true, false, false, false, false, false] rfl rfl (one_of HT_.out (by kernel_rfl)) (by decide) (fun K hK => ?_)
                     refine goes_ Try.func36 (by kernel_rfl) rfl #[.int .u64 a0_0, .slice Ao38 t103.length co38, .int .i64 x24_6] (by rfl) rfl rfl (by (try simp only [List.map_toArray, List.map_cons, List.map_nil]);first|done|rfl|(simp only [List.length_drop, List.length_take];rfl)) ?_
                     with_reducible refine (tombolaref12_Count.calls kj96 a0_0 _ _ t103 x24_6 t141 _ ?side1 ?side2 A100.out).mono ?_
                     (case side1 => repeat (first|exact (Kd.R_reads' HO_9.out).2.2|(with_reducible refine Kd.C_alloc ?_ _)|(with_reducible refine Kd.C_drewN ?_ _)|(with_reducible refine Kd.C_drew ?_)))
                     (case side2 => exact (Kd.R_reads' HO_9.out).2.1)
                     rintro e w108 ⟨v142, rfl, ho0, hb⟩
                     refine ⟨_, rfl, ?_⟩
                     have n0_ := Aside0.mk (Kd.R_below (by (with_reducible repeat (first|apply Kd.R_alloc|apply Kd.R_drewN|apply Kd.R_drew));exact HO_9.out) hb)
                     have n1_ := Aside0.mk (Kd.R_lower ho0 (below_size (by repeat (first|(with_reducible first|exact HB.out|apply below_alloc|apply pw_below_drewN|apply below_drew1|refine below_set ?_ GE101.out|refine below_set ?_ GE113.out|refine below_set ?_ GE134.out)|exact HB.out))))
                     have n2_ := Aside0.mk (blk_below (g := gb101) (o := .cells #[.int .u64 a0_0, .slice A0_1 l0_1.length c0_1] 53 (0, 0)) (by (with_reducible repeat (first|refine blk_drewN ?_ _|refine blk_drew ?_|refine blk_alloc ?_ _));exact BK101.out) hb)
                     have n3_ := Aside0.mk (blk_below (g := gb113) (o := .cells #[.int .u64 t110, .int .u64 t111] 26 (0, 0)) (by (with_reducible repeat (first|refine blk_drewN ?_ _|refine blk_drew ?_|refine blk_alloc ?_ _));exact BK113.out) hb)
                     have n4_ := Aside0.mk (blk_below (g := gb134) (o := .cells #[.int .u64 t131, .int .u64 t132] 26 (0, 0)) (by (with_reducible repeat (first|refine blk_drewN ?_ _|refine blk_drew ?_|refine blk_alloc ?_ _));exact BK134.out) hb)
                     have n5_ := Aside0.mk (below_step (by repeat (first|(with_reducible first|exact HB.out|apply below_alloc|apply pw_below_drewN|apply below_drew1|refine below_set ?_ GE101.out|refine below_set ?_ GE113.out|refine below_set ?_ GE134.out)|exact HB.out)) hb)
                     clear HO_9
                     clear BK101
                     clear BK113
                     clear BK134
                     clear HB
                     have HO_9 := n0_
                     have HO143 := n1_
                     have BK101 := n2_
                     have BK113 := n3_
                     have BK134 := n4_
                     have HB := n5_
                     clear n0_ n1_ n2_ n3_ n4_ n5_
                     (try clear hb)
                     (try clear hb2)
                     (try clear hk)
                     (try clear hi)
                     (try clear ho0)
                     refine hK.out _ _ ⟨(blk_cell BK101.out 0).trans rfl, (blk_cell BK101.out 1).trans rfl, ((HB.out.cell (World.block_lt_of_cell? w _ hw144_0)).trans hw144_0)⟩ (fun hHeld => ?_)
                     clear hK K
                     refine norm_ (a' := ?_) ?_ ?_
                     rotate_left
                     ·show Act.put _ (some 200) _ = _
                      simp only [Act.put, List.setIfInBounds_toArray, List.set_cons_zero, List.set_cons_succ, i64_w, i32_w]
                      rfl
                     refine one_ (i := 9) (N := some 205) #[true, true, true, true, true, true, true, true, true, true, true, true, true, false, false, false, false, false] rfl rfl (one_of HT_.out (by kernel_rfl)) (by decide) (fun K hK => ?_)
                     refine goes_ Try.func35 (by kernel_rfl) rfl #[.int .u64 (rd l3 x24_6)] (by rfl) rfl rfl (by (try simp only [List.map_toArray, List.map_cons, List.map_nil]);first|done|rfl|(simp only [List.length_drop, List.length_take];rfl)) ?_
                     with_reducible refine (tombolaref01_Of.calls kj96 (rd l3 x24_6) t145 _ A103.out).mono ?_
                     rintro e w109 ⟨v146, rfl, ho0, hb⟩
                     refine ⟨_, rfl, ?_⟩
                     have n0_ := Aside0.mk (Kd.R_below (by (with_reducible repeat (first|apply Kd.R_alloc|apply Kd.R_drewN|apply Kd.R_drew));exact HO_9.out) hb)
                     have n1_ := Aside0.mk (Kd.R_elder' (by (with_reducible repeat (first|apply Kd.R_alloc|apply Kd.R_drewN|apply Kd.R_drew));exact HO143.out) (Kd.R_base ho0) hb)
                     have n2_ := Aside0.mk (Kd.R_lower (Kd.R_new' ho0 (Kd.R_lt (by (with_reducible repeat (first|apply Kd.R_alloc|apply Kd.R_drewN|apply Kd.R_drew));exact HO143.out))) (below_size (by repeat (first|(with_reducible first|exact HB.out|apply below_alloc|apply pw_below_drewN|apply below_drew1|refine below_set ?_ GE101.out|refine below_set ?_ GE113.out|refine below_set ?_ GE134.out)|exact HB.out))))
                     have n3_ := Aside0.mk (blk_below (g := gb101) (o := .cells #[.int .u64 a0_0, .slice A0_1 l0_1.length c0_1] 53 (0, 0)) (by (with_reducible repeat (first|refine blk_drewN ?_ _|refine blk_drew ?_|refine blk_alloc ?_ _));exact BK101.out) hb)
                     have n4_ := Aside0.mk (blk_below (g := gb113) (o := .cells #[.int .u64 t110, .int .u64 t111] 26 (0, 0)) (by (with_reducible repeat (first|refine blk_drewN ?_ _|refine blk_drew ?_|refine blk_alloc ?_ _));exact BK113.out) hb)
                     have n5_ := Aside0.mk (blk_below (g := gb134) (o := .cells #[.int .u64 t131, .int .u64 t132] 26 (0, 0)) (by (with_reducible repeat (first|refine blk_drewN ?_ _|refine blk_drew ?_|refine blk_alloc ?_ _));exact BK134.out) hb)
                     have n6_ := Aside0.mk (below_step (by repeat (first|(with_reducible first|exact HB.out|apply below_alloc|apply pw_below_drewN|apply below_drew1|refine below_set ?_ GE101.out|refine below_set ?_ GE113.out|refine below_set ?_ GE134.out)|exact HB.out)) hb)
                     clear HO_9
                     clear HO143
                     clear BK101
                     clear BK113
                     clear BK134
                     clear HB
                     have HO_9 := n0_
                     have HO143 := n1_
                     have HO147 := n2_
                     have BK101 := n3_
                     have BK113 := n4_
                     have BK134 := n5_
                     have HB := n6_
                     clear n0_ n1_ n2_ n3_ n4_ n5_ n6_
                     (try clear hb)
                     (try clear hb2)
                     (try clear hk)
                     (try clear hi)
                     (try clear ho0)
                     refine hK.out _ _ ⟨(blk_cell BK101.out 0).trans rfl, (blk_cell BK101.out 1).trans rfl, ((HB.out.cell (World.block_lt_of_cell? w _ hw144_0)).trans hw144_0)⟩ (fun hHeld => ?_)
                     clear hK K
                     refine norm_ (a' := ?_) ?_ ?_
                     rotate_left
                     ·show Act.put _ (some 205) _ = _
                      simp only [Act.put, List.setIfInBounds_toArray, List.set_cons_zero, List.set_cons_succ, i64_w, i32_w]
                      rfl
                     refine one_ (i := 13) (N := some 209) #[true, true, true, true, true, true, true, true, true, true, true, true, true, true, false, false, false, false] rfl rfl (one_of HT_.out (by kernel_rfl)) (by decide) (fun K hK => ?_)
                     refine goes_ Try.func35 (by kernel_rfl) rfl #[.int .u64 (IntKind.u64.wrap ((l3.length : Int)))] (by rfl) rfl rfl (by (try simp only [List.map_toArray, List.map_cons, List.map_nil]);first|done|rfl|(simp only [List.length_drop, List.length_take];rfl)) ?_
                     with_reducible refine (tombolaref01_Of.calls kj96 (IntKind.u64.wrap ((l3.length : Int))) t148 _ A104.out).mono ?_
                     rintro e w110 ⟨v149, rfl, ho0, hb⟩
                     refine ⟨_, rfl, ?_⟩
                     have n0_ := Aside0.mk (Kd.R_below (by (with_reducible repeat (first|apply Kd.R_alloc|apply Kd.R_drewN|apply Kd.R_drew));exact HO_9.out) hb)
                     have n1_ := Aside0.mk (Kd.R_elder' (by (with_reducible repeat (first|apply Kd.R_alloc|apply Kd.R_drewN|apply Kd.R_drew));exact HO143.out) (Kd.R_base ho0) hb)
                     have n2_ := Aside0.mk (Kd.R_elder' (by (with_reducible repeat (first|apply Kd.R_alloc|apply Kd.R_drewN|apply Kd.R_drew));exact HO147.out) (Kd.R_base ho0) hb)
                     have n3_ := Aside0.mk (Kd.R_lower (Kd.R_new' (Kd.R_new' ho0 (Kd.R_lt (by (with_reducible repeat (first|apply Kd.R_alloc|apply Kd.R_drewN|apply Kd.R_drew));exact HO143.out))) (Kd.R_lt (by (with_reducible repeat (first|apply Kd.R_alloc|apply Kd.R_drewN|apply Kd.R_drew));exact HO147.out))) (below_size (by repeat (first|(with_reducible first|exact HB.out|apply below_alloc|apply pw_below_drewN|apply below_drew1|refine below_set ?_ GE101.out|refine below_set ?_ GE113.out|refine below_set ?_ GE134.out)|exact HB.out))))
                     have n4_ := Aside0.mk (blk_below (g := gb101) (o := .cells #[.int .u64 a0_0, .slice A0_1 l0_1.length c0_1] 53 (0, 0)) (by (with_reducible repeat (first|refine blk_drewN ?_ _|refine blk_drew ?_|refine blk_alloc ?_ _));exact BK101.out) hb)
                     have n5_ := Aside0.mk (blk_below (g := gb113) (o := .cells #[.int .u64 t110, .int .u64 t111] 26 (0, 0)) (by (with_reducible repeat (first|refine blk_drewN ?_ _|refine blk_drew ?_|refine blk_alloc ?_ _));exact BK113.out) hb)
                     have n6_ := Aside0.mk (blk_below (g := gb134) (o := .cells #[.int .u64 t131, .int .u64 t132] 26 (0, 0)) (by (with_reducible repeat (first|refine blk_drewN ?_ _|refine blk_drew ?_|refine blk_alloc ?_ _));exact BK134.out) hb)
                     have n7_ := Aside0.mk (below_step (by repeat (first|(with_reducible first|exact HB.out|apply below_alloc|apply pw_below_drewN|apply below_drew1|refine below_set ?_ GE101.out|refine below_set ?_ GE113.out|refine below_set ?_ GE134.out)|exact HB.out)) hb)
                     clear HO_9
                     clear HO143
                     clear HO147
                     clear BK101
                     clear BK113
                     clear BK134
                     clear HB
                     have HO_9 := n0_
                     have HO143 := n1_
                     have HO147 := n2_
                     have HO150 := n3_
                     have BK101 := n4_
                     have BK113 := n5_
                     have BK134 := n6_
                     have HB := n7_
                     clear n0_ n1_ n2_ n3_ n4_ n5_ n6_ n7_
                     (try clear hb)
                     (try clear hb2)
                     (try clear hk)
                     (try clear hi)
                     (try clear ho0)
                     obtain ⟨Ao111, co111, eo111⟩ := Kd.R_slice HO147.out
                     (first|subst eo111|(injection eo111 with f1_ f2_ f3_;have f4_ := f1_.symm;have f5_ := f3_.symm;clear f1_ f2_ f3_;subst f4_;subst f5_))
                     obtain ⟨Ao112, co112, eo112⟩ := Kd.R_slice HO150.out
                     (first|subst eo112|(injection eo112 with f1_ f2_ f3_;have f4_ := f1_.symm;have f5_ := f3_.symm;clear f1_ f2_ f3_;subst f4_;subst f5_))
                     refine hK.out _ _ ⟨(blk_cell BK101.out 0).trans rfl, (blk_cell BK101.out 1).trans rfl, ((HB.out.cell (World.block_lt_of_cell? w _ hw144_0)).trans hw144_0)⟩ (fun hHeld => ?_)
                     clear hK K
                     refine norm_ (a' := ?_) ?_ ?_
                     rotate_left
                     ·show Act.put _ (some 209) _ = _
                      simp only [Act.put, List.setIfInBounds_toArray, List.set_cons_zero, List.set_cons_succ, i64_w, i32_w]
                      rfl
                     refine one_ (i := 14) (N := some 210) #[true, true, true, true, true, true, true, true, true, true, true, true, true, true, true, false, false, false] rfl rfl (one_of HT_.out (by kernel_rfl)) (by decide) (fun K hK => ?_)
                     refine goes_ Try.func34 (by kernel_rfl) rfl #[.agg #[.slice Ao111 t145.length co111], .agg #[.slice Ao112 t148.length co112]] (by rfl) rfl rfl (by (try simp only [List.map_toArray, List.map_cons, List.map_nil]);first|done|rfl|(simp only [List.length_drop, List.length_take];rfl)) ?_
                     with_reducible refine (tombolaref01_Mul.calls kj96 _ _ t145 _ _ t148 t151 _ ?side1 ?side2 ?side3 ?side4 A105.out).mono ?_
                     (case side1 => repeat (first|exact (Kd.R_reads' HO147.out).2.2|(with_reducible refine Kd.C_alloc ?_ _)|(with_reducible refine Kd.C_drewN ?_ _)|(with_reducible refine Kd.C_drew ?_)))
                     (case side2 => exact (Kd.R_reads' HO147.out).2.1)
                     (case side3 => repeat (first|exact (Kd.R_reads' HO150.out).2.2|(with_reducible refine Kd.C_alloc ?_ _)|(with_reducible refine Kd.C_drewN ?_ _)|(with_reducible refine Kd.C_drew ?_)))
                     (case side4 => exact (Kd.R_reads' HO150.out).2.1)
                     rintro e w113 ⟨v152, rfl, ho0, hb⟩
                     refine ⟨_, rfl, ?_⟩
                     have n0_ := Aside0.mk (Kd.R_below (by (with_reducible repeat (first|apply Kd.R_alloc|apply Kd.R_drewN|apply Kd.R_drew));exact HO_9.out) hb)
                     have n1_ := Aside0.mk (Kd.R_elder' (by (with_reducible repeat (first|apply Kd.R_alloc|apply Kd.R_drewN|apply Kd.R_drew));exact HO143.out) (Kd.R_base ho0) hb)
                     have n2_ := Aside0.mk (Kd.R_elder' (by (with_reducible repeat (first|apply Kd.R_alloc|apply Kd.R_drewN|apply Kd.R_drew));exact HO147.out) (Kd.R_base ho0) hb)
                     have n3_ := Aside0.mk (Kd.R_elder' (by (with_reducible repeat (first|apply Kd.R_alloc|apply Kd.R_drewN|apply Kd.R_drew));exact HO150.out) (Kd.R_base ho0) hb)
                     have n4_ := Aside0.mk (Kd.R_lower (Kd.R_new' (Kd.R_new' (Kd.R_new' ho0 (Kd.R_lt (by (with_reducible repeat (first|apply Kd.R_alloc|apply Kd.R_drewN|apply Kd.R_drew));exact HO143.out))) (Kd.R_lt (by (with_reducible repeat (first|apply Kd.R_alloc|apply Kd.R_drewN|apply Kd.R_drew));exact HO147.out))) (Kd.R_lt (by (with_reducible repeat (first|apply Kd.R_alloc|apply Kd.R_drewN|apply Kd.R_drew));exact HO150.out))) (below_size (by repeat (first|(with_reducible first|exact HB.out|apply below_alloc|apply pw_below_drewN|apply below_drew1|refine below_set ?_ GE101.out|refine below_set ?_ GE113.out|refine below_set ?_ GE134.out)|exact HB.out))))
                     have n5_ := Aside0.mk (blk_below (g := gb101) (o := .cells #[.int .u64 a0_0, .slice A0_1 l0_1.length c0_1] 53 (0, 0)) (by (with_reducible repeat (first|refine blk_drewN ?_ _|refine blk_drew ?_|refine blk_alloc ?_ _));exact BK101.out) hb)
                     have n6_ := Aside0.mk (blk_below (g := gb113) (o := .cells #[.int .u64 t110, .int .u64 t111] 26 (0, 0)) (by (with_reducible repeat (first|refine blk_drewN ?_ _|refine blk_drew ?_|refine blk_alloc ?_ _));exact BK113.out) hb)
                     have n7_ := Aside0.mk (blk_below (g := gb134) (o := .cells #[.int .u64 t131, .int .u64 t132] 26 (0, 0)) (by (with_reducible repeat (first|refine blk_drewN ?_ _|refine blk_drew ?_|refine blk_alloc ?_ _));exact BK134.out) hb)
                     have n8_ := Aside0.mk (below_step (by repeat (first|(with_reducible first|exact HB.out|apply below_alloc|apply pw_below_drewN|apply below_drew1|refine below_set ?_ GE101.out|refine below_set ?_ GE113.out|refine below_set ?_ GE134.out)|exact HB.out)) hb)
                     clear HO_9
                     clear HO143
                     clear HO147
                     clear HO150
                     clear BK101
                     clear BK113
                     clear BK134
                     clear HB
                     have HO_9 := n0_
                     have HO143 := n1_
                     have HO147 := n2_
                     have HO150 := n3_
                     have HO153 := n4_
                     have BK101 := n5_
                     have BK113 := n6_
                     have BK134 := n7_
                     have HB := n8_
                     clear n0_ n1_ n2_ n3_ n4_ n5_ n6_ n7_ n8_
                     (try clear hb)
                     (try clear hb2)
                     (try clear hk)
                     (try clear hi)
                     (try clear ho0)
                     obtain ⟨Ao114, co114, eo114⟩ := Kd.R_slice HO143.out
                     (first|subst eo114|(injection eo114 with f1_ f2_ f3_;have f4_ := f1_.symm;have f5_ := f3_.symm;clear f1_ f2_ f3_;subst f4_;subst f5_))
                     obtain ⟨Ao115, co115, eo115⟩ := Kd.R_slice HO153.out
                     (first|subst eo115|(injection eo115 with f1_ f2_ f3_;have f4_ := f1_.symm;have f5_ := f3_.symm;clear f1_ f2_ f3_;subst f4_;subst f5_))
                     refine hK.out _ _ ⟨(blk_cell BK101.out 0).trans rfl, (blk_cell BK101.out 1).trans rfl, ((HB.out.cell (World.block_lt_of_cell? w _ hw144_0)).trans hw144_0)⟩ (fun hHeld => ?_)
                     clear hK K
                     refine norm_ (a' := ?_) ?_ ?_
                     rotate_left
                     ·show Act.put _ (some 210) _ = _
                      simp only [Act.put, List.setIfInBounds_toArray, List.set_cons_zero, List.set_cons_succ, i64_w, i32_w]
                      rfl
                     refine one_ (i := 15) (N := some 211) #[true, true, true, true, true, true, true, true, true, true, true, true, true, true, true, true, false, false] rfl rfl (one_of HT_.out (by kernel_rfl)) (by decide) (fun K hK => ?_)
                     refine goes_ Try.func38 (by kernel_rfl) rfl #[.agg #[.slice Ao114 t141.length co114], .agg #[.slice Ao115 t151.length co115]] (by rfl) rfl rfl (by (try simp only [List.map_toArray, List.map_cons, List.map_nil]);first|done|rfl|(simp only [List.length_drop, List.length_take];rfl)) ?_
                     with_reducible refine (tombolaref01_Cmp.calls kj96 _ _ t141 _ _ t151 t154 _ ?side1 ?side2 ?side3 ?side4 A106.out).mono ?_
                     (case side1 => repeat (first|exact (Kd.R_reads' HO143.out).2.2|(with_reducible refine Kd.C_alloc ?_ _)|(with_reducible refine Kd.C_drewN ?_ _)|(with_reducible refine Kd.C_drew ?_)))
                     (case side2 => exact (Kd.R_reads' HO143.out).2.1)
                     (case side3 => repeat (first|exact (Kd.R_reads' HO153.out).2.2|(with_reducible refine Kd.C_alloc ?_ _)|(with_reducible refine Kd.C_drewN ?_ _)|(with_reducible refine Kd.C_drew ?_)))
                     (case side4 => exact (Kd.R_reads' HO153.out).2.1)
                     rintro e w116 ⟨rfl, hb⟩
                     refine ⟨_, rfl, ?_⟩
                     have n0_ := Aside0.mk (Kd.R_below (by (with_reducible repeat (first|apply Kd.R_alloc|apply Kd.R_drewN|apply Kd.R_drew));exact HO_9.out) hb)
                     have n1_ := Aside0.mk (Kd.R_below (by (with_reducible repeat (first|apply Kd.R_alloc|apply Kd.R_drewN|apply Kd.R_drew));exact HO143.out) hb)
                     have n2_ := Aside0.mk (Kd.R_below (by (with_reducible repeat (first|apply Kd.R_alloc|apply Kd.R_drewN|apply Kd.R_drew));exact HO147.out) hb)
                     have n3_ := Aside0.mk (Kd.R_below (by (with_reducible repeat (first|apply Kd.R_alloc|apply Kd.R_drewN|apply Kd.R_drew));exact HO150.out) hb)
                     have n4_ := Aside0.mk (Kd.R_below (by (with_reducible repeat (first|apply Kd.R_alloc|apply Kd.R_drewN|apply Kd.R_drew));exact HO153.out) hb)
                     have n5_ := Aside0.mk (blk_below (g := gb101) (o := .cells #[.int .u64 a0_0, .slice A0_1 l0_1.length c0_1] 53 (0, 0)) (by (with_reducible repeat (first|refine blk_drewN ?_ _|refine blk_drew ?_|refine blk_alloc ?_ _));exact BK101.out) hb)
                     have n6_ := Aside0.mk (blk_below (g := gb113) (o := .cells #[.int .u64 t110, .int .u64 t111] 26 (0, 0)) (by (with_reducible repeat (first|refine blk_drewN ?_ _|refine blk_drew ?_|refine blk_alloc ?_ _));exact BK113.out) hb)
                     have n7_ := Aside0.mk (blk_below (g := gb134) (o := .cells #[.int .u64 t131, .int .u64 t132] 26 (0, 0)) (by (with_reducible repeat (first|refine blk_drewN ?_ _|refine blk_drew ?_|refine blk_alloc ?_ _));exact BK134.out) hb)
                     have n8_ := Aside0.mk (below_step (by repeat (first|(with_reducible first|exact HB.out|apply below_alloc|apply pw_below_drewN|apply below_drew1|refine below_set ?_ GE101.out|refine below_set ?_ GE113.out|refine below_set ?_ GE134.out)|exact HB.out)) hb)
                     clear HO_9
                     clear HO143
                     clear HO147
                     clear HO150
                     clear HO153
                     clear BK101
                     clear BK113
                     clear BK134
                     clear HB
                     have HO_9 := n0_
                     have HO143 := n1_
                     have HO147 := n2_
                     have HO150 := n3_
                     have HO153 := n4_
                     have BK101 := n5_
                     have BK113 := n6_
                     have BK134 := n7_
                     have HB := n8_
                     clear n0_ n1_ n2_ n3_ n4_ n5_ n6_ n7_ n8_
                     (try clear hb)
                     (try clear hb2)
                     (try clear hk)
                     (try clear hi)
                     refine hK.out _ _ ⟨(blk_cell BK101.out 0).trans rfl, (blk_cell BK101.out 1).trans rfl, ((HB.out.cell (World.block_lt_of_cell? w _ hw144_0)).trans hw144_0)⟩ (fun hHeld => ?_)
                     clear hK K
                     refine norm_ (a' := ?_) ?_ ?_
                     rotate_left
                     ·show Act.put _ (some 211) _ = _
                      simp only [Act.put, List.setIfInBounds_toArray, List.set_cons_zero, List.set_cons_succ, i64_w, i32_w]
                      rfl
                     refine pure_ (i := 16) (N := some 212) (v := ?_) (a' := ?_) #[true, true, true, true, true, true, true, true, true, true, true, true, true, true, true, true, true, false] rfl rfl (any_of HT_.out (by kernel_rfl)) (fun _ _ _ h => h) (Or.inl ⟨by rfl, ?_⟩) ?_ ?_
                     rotate_left
                     ·intro w'
                      go_simp
                      with_reducible rfl
                     rotate_left
                     ·simp only [Act.put, List.setIfInBounds_toArray, List.set_cons_zero, List.set_cons_succ, i64_w, i32_w]
                      rfl
                     refine pure_ (i := 17) (N := some 23) (v := ?_) (a' := ?_) #[true, true, true, true, true, true, true, true, true, true, true, true, true, true, true, true, true, true] rfl rfl (any_of HT_.out (by kernel_rfl)) (fun _ _ _ h => h) (Or.inl ⟨by rfl, ?_⟩) ?_ ?_
                     rotate_left
                     ·intro w'
                      go_simp
                      with_reducible rfl
                     rotate_left
                     ·simp only [Act.put, List.setIfInBounds_toArray, List.set_cons_zero, List.set_cons_succ, i64_w, i32_w]
                      rfl
                     refine done_ (done_of HT_.out (by kernel_rfl)) ?_
                     try go_wp2
                     go_roundg kj96
                     case measure => have := HJ4.out;have := HJ24.out;have := HJ62.out;have := HJ64.out;have := HJ86.out;have := HK6.out;have := HJ96.out;omega
                     case rel => exact ⟨((t154 == 0)), (wrap64 (x24_6 + 1)), (by first|rfl|(simp;done)|(simp [*];done)), (by first|rfl|(simp;done)|(simp [*];done)), H', ⟨by have := HJ4.out;have := HJ24.out;have := HJ62.out;have := HJ64.out;have := HJ86.out;have := HK6.out;have := HJ96.out;omega⟩, ⟨by (with_reducible repeat (first|apply Kd.R_alloc|apply Kd.R_drewN|apply Kd.R_drew));exact HO_9.out⟩, ⟨by (with_reducible repeat (first|refine blk_drewN ?_ _|refine blk_drew ?_|refine blk_alloc ?_ _));exact BK101.out⟩, ⟨by (with_reducible repeat (first|refine blk_drewN ?_ _|refine blk_drew ?_|refine blk_alloc ?_ _));exact BK113.out⟩, ⟨by (with_reducible repeat (first|refine blk_drewN ?_ _|refine blk_drew ?_|refine blk_alloc ?_ _));exact BK134.out⟩, ⟨by repeat (first|(with_reducible first|exact HB.out|apply below_alloc|apply pw_below_drewN|apply below_drew1|refine below_set ?_ GE101.out|refine below_set ?_ GE113.out|refine below_set ?_ GE134.out)|exact HB.out)⟩⟩
                    ·rw [if_neg c102] at H
                     exact absurd H (by simp)
                   ·rw [if_neg c101] at H
                    exact absurd H (by simp)
                  ·replace c99 := Bool.eq_false_iff.mpr c99
                   subst c99
                   have H1 : ((alias_Fair.f kj96 a0_0 l0_1 l3).bind fun t139 => (if (t139 == x23_6) = true then ((tombolalaw12_alive.f kj96).bind fun t140 => (some t140)) else (some false))) = some r := by rw [if_neg (show ¬ (false = true) by decide)] at H;exact H
                   clear H
                   have H := H1
                   clear H1
                   replace H := Option.bind_eq_some_iff.mp H
                   obtain ⟨t139, A1170, H⟩ := H
                   replace H : (if (t139 == x23_6) = true then ((tombolalaw12_alive.f kj96).bind fun t140 => (some t140)) else (some false)) = some r := H
                   have A117 := Aside0.mk A1170
                   clear A1170
                   by_cases c118 : (t139 == x23_6) = true
                   ·rw [if_pos c118] at H
                    have c118b0 : (t139 == x23_6) = true := c118
                    (try (have c118b1 : decide (t139 = x23_6) = true := by simpa using c118))
                    (try (have c118b2 : (t139 == x23_6) = true := by simpa using c118))
                    clear c118
                    replace H := Option.bind_eq_some_iff.mp H
                    obtain ⟨t140, A1190, H⟩ := H
                    replace H : (some t140) = some r := H
                    have A119 := Aside0.mk A1190
                    clear A1190
                    obtain rfl := Option.some.inj H
                    have hnb120 := NB101_113.out
                    have hnc120 := NB113_101.out
                    have hnb121 := NB101_134.out
                    have hnc121 := NB134_101.out
                    have hcz122_0 : wc.cell? ⟨gb101, 0, none⟩ = some (.int .u64 a0_0) := (blk_cell BK101.out 0).trans rfl
                    have hcz122_1 : wc.cell? ⟨gb101, 1, none⟩ = some (.slice A0_1 l0_1.length c0_1) := (blk_cell BK101.out 1).trans rfl
                    have hfz122_0 := blk_frozen BK101.out 0
                    have hfz122_1 := blk_frozen BK101.out 1
                    go_wp2_with (first|((with_reducible refine gate_callee (f := 32) rfl ?_);refine goesL_ (some 215) rfl rfl Try.func32 (by kernel_rfl) rfl #[.agg #[.int .u64 a0_0, .slice A0_1 l0_1.length c0_1], .slice A3 l3.length c3] rfl (by (try simp only [List.map_toArray, List.map_cons, List.map_nil]);first|done|rfl|(simp only [List.length_drop, List.length_take];rfl)) ?_;(with_reducible refine (alias_Fair.calls kj96 a0_0 _ _ l0_1 _ _ l3 t139 _ ?side1 ?side2 ?side3 ?side4 A117.out).mono ?_);(case side1 => repeat (first|exact (Kd.C_below HR0_1.out HB.out)|(with_reducible refine Kd.C_alloc ?_ _)|(with_reducible refine Kd.C_drewN ?_ _)|(with_reducible refine Kd.C_drew ?_)));(case side2 => exact HC0_1.out);(case side3 => repeat (first|exact (Kd.C_below HR3.out HB.out)|(with_reducible refine Kd.C_alloc ?_ _)|(with_reducible refine Kd.C_drewN ?_ _)|(with_reducible refine Kd.C_drew ?_)));(case side4 => exact HC3.out);rintro e w123 ⟨rfl, hb⟩;refine ⟨_, rfl, ?_⟩;have n0_ := Aside0.mk (Kd.R_below (by (with_reducible repeat (first|apply Kd.R_alloc|apply Kd.R_drewN|apply Kd.R_drew));exact HO_9.out) hb);have n1_ := Aside0.mk (blk_below (g := gb101) (o := .cells #[.int .u64 a0_0, .slice A0_1 l0_1.length c0_1] 53 (0, 0)) (by (with_reducible repeat (first|refine blk_drewN ?_ _|refine blk_drew ?_|refine blk_alloc ?_ _));exact BK101.out) hb);have n2_ := Aside0.mk (blk_below (g := gb113) (o := .cells #[.int .u64 t110, .int .u64 t111] 26 (0, 0)) (by (with_reducible repeat (first|refine blk_drewN ?_ _|refine blk_drew ?_|refine blk_alloc ?_ _));exact BK113.out) hb);have n3_ := Aside0.mk (blk_below (g := gb134) (o := .cells #[.int .u64 t131, .int .u64 t132] 26 (0, 0)) (by (with_reducible repeat (first|refine blk_drewN ?_ _|refine blk_drew ?_|refine blk_alloc ?_ _));exact BK134.out) hb);have n4_ := Aside0.mk (below_step (by repeat (first|(with_reducible first|exact HB.out|apply below_alloc|apply pw_below_drewN|apply below_drew1|refine below_set ?_ GE101.out|refine below_set ?_ GE113.out|refine below_set ?_ GE134.out)|exact HB.out)) hb);clear HO_9;clear BK101;clear BK113;clear BK134;clear HB;have HO_9 := n0_;have BK101 := n1_;have BK113 := n2_;have BK134 := n3_;have HB := n4_;clear n0_ n1_ n2_ n3_ n4_;(try clear hb);(try clear hb2);(try clear hk);(try clear hi))|(go_at_call 26;(with_reducible refine (tombolalaw12_alive.calls kj96  t140 _ A119.out).mono ?_);rintro e w124 ⟨rfl, hb⟩;have n0_ := Aside0.mk (Kd.R_below (by (with_reducible repeat (first|apply Kd.R_alloc|apply Kd.R_drewN|apply Kd.R_drew));exact HO_9.out) hb);have n1_ := Aside0.mk (blk_below (g := gb101) (o := .cells #[.int .u64 a0_0, .slice A0_1 l0_1.length c0_1] 53 (0, 0)) (by (with_reducible repeat (first|refine blk_drewN ?_ _|refine blk_drew ?_|refine blk_alloc ?_ _));exact BK101.out) hb);have n2_ := Aside0.mk (blk_below (g := gb113) (o := .cells #[.int .u64 t110, .int .u64 t111] 26 (0, 0)) (by (with_reducible repeat (first|refine blk_drewN ?_ _|refine blk_drew ?_|refine blk_alloc ?_ _));exact BK113.out) hb);have n3_ := Aside0.mk (blk_below (g := gb134) (o := .cells #[.int .u64 t131, .int .u64 t132] 26 (0, 0)) (by (with_reducible repeat (first|refine blk_drewN ?_ _|refine blk_drew ?_|refine blk_alloc ?_ _));exact BK134.out) hb);have n4_ := Aside0.mk (below_step (by repeat (first|(with_reducible first|exact HB.out|apply below_alloc|apply pw_below_drewN|apply below_drew1|refine below_set ?_ GE101.out|refine below_set ?_ GE113.out|refine below_set ?_ GE134.out)|exact HB.out)) hb);clear HO_9;clear BK101;clear BK113;clear BK134;clear HB;have HO_9 := n0_;have BK101 := n1_;have BK113 := n2_;have BK134 := n3_;have HB := n4_;clear n0_ n1_ n2_ n3_ n4_;(try clear hb);(try clear hb2);(try clear hk);(try clear hi)))
                    go_ret
                    exact ⟨by first|rfl|(simp [errW_none, errW_some] <;> rfl)|(simp [*, errW_none, errW_some] <;> rfl), by repeat (first|(with_reducible first|exact HB.out|apply below_alloc|apply pw_below_drewN|apply below_drew1|refine below_set ?_ GE101.out|refine below_set ?_ GE113.out|refine below_set ?_ GE134.out)|exact HB.out)⟩
                   ·rw [if_neg c118] at H
                    have c118b0 : (t139 == x23_6) = false := by simpa using c118
                    (try (have c118b1 : decide (t139 = x23_6) = false := by simpa using c118))
                    (try (have c118b2 : (t139 == x23_6) = false := by simpa using c118))
                    (try (have c118b3 : ¬ (t139 = x23_6) := by simpa using c118))
                    clear c118
                    exact absurd ((Option.some.inj H).trans ht_.out) (by simp)
    ·replace c18 := Bool.eq_false_iff.mpr c18
     subst c18
     have H1 : (if t106 = (-1) then (if t107 = true then (some false) else (if t108 = 0 then (if t109 = true then (some false) else (if (t110 == 0 && (t111 == 0)) = true then (if t112 = true then (some false) else ((alias_Fair.f kj4 a0_0 l0_1 l3).bind fun t115 => (if t115 = true then (some false) else ((tombolalaw12_alive.f kj4).bind fun t116 => (some t116))))) else (some false))) else (some false))) else (some false)) = some r := by rw [if_neg (show ¬ (false = true) by decide)] at H;exact H
     clear H
     have H := H1
     clear H1
     by_cases c125 : t106 = (-1)
     ·rw [if_pos c125] at H
      have c125b0 : (t106 == (-1)) = true := beq_iff_eq.mpr c125
      have c125b1 : (t106 != (-1)) = false := bne_eq_false_iff_eq.mpr c125
      clear c125
      by_cases c126 : t107 = true
      ·subst c126
       have H1 : (some false) = some r := by rw [if_pos rfl] at H;exact H
       clear H
       have H := H1
       clear H1
       exact absurd ((Option.some.inj H).trans ht_.out) (by simp)
      ·replace c126 := Bool.eq_false_iff.mpr c126
       subst c126
       have H1 : (if t108 = 0 then (if t109 = true then (some false) else (if (t110 == 0 && (t111 == 0)) = true then (if t112 = true then (some false) else ((alias_Fair.f kj4 a0_0 l0_1 l3).bind fun t115 => (if t115 = true then (some false) else ((tombolalaw12_alive.f kj4).bind fun t116 => (some t116))))) else (some false))) else (some false)) = some r := by rw [if_neg (show ¬ (false = true) by decide)] at H;exact H
       clear H
       have H := H1
       clear H1
       by_cases c127 : t108 = 0
       ·rw [if_pos c127] at H
        have c127b0 : (t108 == 0) = true := beq_iff_eq.mpr c127
        have c127b1 : (t108 != 0) = false := bne_eq_false_iff_eq.mpr c127
        clear c127
        by_cases c128 : t109 = true
        ·subst c128
         have H1 : (some false) = some r := by rw [if_pos rfl] at H;exact H
         clear H
         have H := H1
         clear H1
         exact absurd ((Option.some.inj H).trans ht_.out) (by simp)
        ·replace c128 := Bool.eq_false_iff.mpr c128
         subst c128
         have H1 : (if (t110 == 0 && (t111 == 0)) = true then (if t112 = true then (some false) else ((alias_Fair.f kj4 a0_0 l0_1 l3).bind fun t115 => (if t115 = true then (some false) else ((tombolalaw12_alive.f kj4).bind fun t116 => (some t116))))) else (some false)) = some r := by rw [if_neg (show ¬ (false = true) by decide)] at H;exact H
         clear H
         have H := H1
         clear H1
         by_cases c129 : (t110 == 0 && (t111 == 0)) = true
         ·rw [if_pos c129] at H
          have c129b0 : (t110 == 0 && (t111 == 0)) = true := c129
          (try (have c129b1 : decide (t110 = 0 && (t111 == 0)) = true := by simpa using c129))
          (try (have c129b2 : (t110 == 0 && (t111 == 0)) = true := by simpa using c129))
          clear c129
          by_cases c130 : t112 = true
          ·subst c130
           have H1 : (some false) = some r := by rw [if_pos rfl] at H;exact H
           clear H
           have H := H1
           clear H1
           exact absurd ((Option.some.inj H).trans ht_.out) (by simp)
          ·replace c130 := Bool.eq_false_iff.mpr c130
           subst c130
           have H1 : ((alias_Fair.f kj4 a0_0 l0_1 l3).bind fun t115 => (if t115 = true then (some false) else ((tombolalaw12_alive.f kj4).bind fun t116 => (some t116)))) = some r := by rw [if_neg (show ¬ (false = true) by decide)] at H;exact H
           clear H
           have H := H1
           clear H1
           replace H := Option.bind_eq_some_iff.mp H
           obtain ⟨t115, A1310, H⟩ := H
           replace H : (if t115 = true then (some false) else ((tombolalaw12_alive.f kj4).bind fun t116 => (some t116))) = some r := H
           have A131 := Aside0.mk A1310
           clear A1310
           by_cases c132 : t115 = true
           ·subst c132
            have H1 : (some false) = some r := by rw [if_pos rfl] at H;exact H
            clear H
            have H := H1
            clear H1
            exact absurd ((Option.some.inj H).trans ht_.out) (by simp)
           ·replace c132 := Bool.eq_false_iff.mpr c132
            subst c132
            have H1 : ((tombolalaw12_alive.f kj4).bind fun t116 => (some t116)) = some r := by rw [if_neg (show ¬ (false = true) by decide)] at H;exact H
            clear H
            have H := H1
            clear H1
            replace H := Option.bind_eq_some_iff.mp H
            obtain ⟨t116, A1330, H⟩ := H
            replace H : (some t116) = some r := H
            have A133 := Aside0.mk A1330
            clear A1330
            obtain rfl := Option.some.inj H
            have hcz134_0 : wc.cell? ⟨gb101, 0, none⟩ = some (.int .u64 a0_0) := (blk_cell BK101.out 0).trans rfl
            have hcz134_1 : wc.cell? ⟨gb101, 1, none⟩ = some (.slice A0_1 l0_1.length c0_1) := (blk_cell BK101.out 1).trans rfl
            have hfz134_0 := blk_frozen BK101.out 0
            have hfz134_1 := blk_frozen BK101.out 1
            go_wp2_with (first|((with_reducible refine gate_callee (f := 27) rfl ?_);refine goesL_ (some 36) rfl rfl Try.func27 (by kernel_rfl) rfl #[.agg #[.int .u64 a0_0, .slice A0_1 l0_1.length c0_1]] rfl (by (try simp only [List.map_toArray, List.map_cons, List.map_nil]);first|done|rfl|(simp only [List.length_drop, List.length_take];rfl)) ?_;(with_reducible refine (tombolalaw12_columns.calls kj4 a0_0 _ _ l0_1 t103 _ ?side1 ?side2 A13.out).mono ?_);(case side1 => repeat (first|exact (Kd.C_below HR0_1.out HB.out)|(with_reducible refine Kd.C_alloc ?_ _)|(with_reducible refine Kd.C_drewN ?_ _)|(with_reducible refine Kd.C_drew ?_)));(case side2 => exact HC0_1.out);rintro e w135 ⟨v104, rfl, ho0, hb⟩;refine ⟨_, rfl, ?_⟩;have n0_ := Aside0.mk (Kd.R_lower ho0 (below_size (by repeat (first|(with_reducible first|exact HB.out|apply below_alloc|apply pw_below_drewN|apply below_drew1|refine below_set ?_ GE101.out)|exact HB.out))));have n1_ := Aside0.mk (blk_below (g := gb101) (o := .cells #[.int .u64 a0_0, .slice A0_1 l0_1.length c0_1] 53 (0, 0)) (by (with_reducible repeat (first|refine blk_drewN ?_ _|refine blk_drew ?_|refine blk_alloc ?_ _));exact BK101.out) hb);have n2_ := Aside0.mk (below_step (by repeat (first|(with_reducible first|exact HB.out|apply below_alloc|apply pw_below_drewN|apply below_drew1|refine below_set ?_ GE101.out)|exact HB.out)) hb);clear BK101;clear HB;have HO105 := n0_;have BK101 := n1_;have HB := n2_;clear n0_ n1_ n2_;(try clear hb);(try clear hb2);(try clear hk);(try clear hi);(try clear ho0);have hcz136_0 : w135.cell? ⟨gb101, 0, none⟩ = some (.int .u64 a0_0) := (blk_cell BK101.out 0).trans rfl;have hcz136_1 : w135.cell? ⟨gb101, 1, none⟩ = some (.slice A0_1 l0_1.length c0_1) := (blk_cell BK101.out 1).trans rfl;have hfz136_0 := blk_frozen BK101.out 0;have hfz136_1 := blk_frozen BK101.out 1)|((with_reducible refine gate_callee (f := 28) rfl ?_);refine goesL_ (some 40) rfl rfl Try.func28 (by kernel_rfl) rfl #[.agg #[.int .u64 a0_0, .slice A0_1 l0_1.length c0_1], .int .u64 a1] rfl (by (try simp only [List.map_toArray, List.map_cons, List.map_nil]);first|done|rfl|(simp only [List.length_drop, List.length_take];rfl)) ?_;(with_reducible refine (alias_Pick.calls kj4 a0_0 _ _ l0_1 a1 t106 false _ ?side1 ?side2 A14.out).mono ?_);(case side1 => repeat (first|exact (Kd.C_below HR0_1.out HB.out)|(with_reducible refine Kd.C_alloc ?_ _)|(with_reducible refine Kd.C_drewN ?_ _)|(with_reducible refine Kd.C_drew ?_)));(case side2 => exact HC0_1.out);rintro e w137 ⟨rfl, hb⟩;refine ⟨_, rfl, ?_⟩;have n0_ := Aside0.mk (Kd.R_below (by (with_reducible repeat (first|apply Kd.R_alloc|apply Kd.R_drewN|apply Kd.R_drew));exact HO105.out) hb);have n1_ := Aside0.mk (blk_below (g := gb101) (o := .cells #[.int .u64 a0_0, .slice A0_1 l0_1.length c0_1] 53 (0, 0)) (by (with_reducible repeat (first|refine blk_drewN ?_ _|refine blk_drew ?_|refine blk_alloc ?_ _));exact BK101.out) hb);have n2_ := Aside0.mk (below_step (by repeat (first|(with_reducible first|exact HB.out|apply below_alloc|apply pw_below_drewN|apply below_drew1|refine below_set ?_ GE101.out)|exact HB.out)) hb);clear HO105;clear BK101;clear HB;have HO105 := n0_;have BK101 := n1_;have HB := n2_;clear n0_ n1_ n2_;(try clear hb);(try clear hb2);(try clear hk);(try clear hi);have hcz138_0 : w137.cell? ⟨gb101, 0, none⟩ = some (.int .u64 a0_0) := (blk_cell BK101.out 0).trans rfl;have hcz138_1 : w137.cell? ⟨gb101, 1, none⟩ = some (.slice A0_1 l0_1.length c0_1) := (blk_cell BK101.out 1).trans rfl;have hfz138_0 := blk_frozen BK101.out 0;have hfz138_1 := blk_frozen BK101.out 1)|((with_reducible refine gate_callee (f := 29) rfl ?_);refine goesL_ (some 45) rfl rfl Try.func29 (by kernel_rfl) rfl #[.agg #[.int .u64 a0_0, .slice A0_1 l0_1.length c0_1]] rfl (by (try simp only [List.map_toArray, List.map_cons, List.map_nil]);first|done|rfl|(simp only [List.length_drop, List.length_take];rfl)) ?_;(with_reducible refine (alias_Numbers.calls a0_0 _ _ l0_1 t108 false _ ?side1 ?side2 A15.out).mono ?_);(case side1 => repeat (first|exact (Kd.C_below HR0_1.out HB.out)|(with_reducible refine Kd.C_alloc ?_ _)|(with_reducible refine Kd.C_drewN ?_ _)|(with_reducible refine Kd.C_drew ?_)));(case side2 => exact HC0_1.out);rintro e w139 ⟨rfl, hb⟩;refine ⟨_, rfl, ?_⟩;have n0_ := Aside0.mk (Kd.R_below (by (with_reducible repeat (first|apply Kd.R_alloc|apply Kd.R_drewN|apply Kd.R_drew));exact HO105.out) hb);have n1_ := Aside0.mk (blk_below (g := gb101) (o := .cells #[.int .u64 a0_0, .slice A0_1 l0_1.length c0_1] 53 (0, 0)) (by (with_reducible repeat (first|refine blk_drewN ?_ _|refine blk_drew ?_|refine blk_alloc ?_ _));exact BK101.out) hb);have n2_ := Aside0.mk (below_step (by repeat (first|(with_reducible first|exact HB.out|apply below_alloc|apply pw_below_drewN|apply below_drew1|refine below_set ?_ GE101.out)|exact HB.out)) hb);clear HO105;clear BK101;clear HB;have HO105 := n0_;have BK101 := n1_;have HB := n2_;clear n0_ n1_ n2_;(try clear hb);(try clear hb2);(try clear hk);(try clear hi);have hcz140_0 : w139.cell? ⟨gb101, 0, none⟩ = some (.int .u64 a0_0) := (blk_cell BK101.out 0).trans rfl;have hcz140_1 : w139.cell? ⟨gb101, 1, none⟩ = some (.slice A0_1 l0_1.length c0_1) := (blk_cell BK101.out 1).trans rfl;have hfz140_0 := blk_frozen BK101.out 0;have hfz140_1 := blk_frozen BK101.out 1)|((with_reducible refine gate_callee (f := 30) rfl ?_);refine goesL_ (some 51) rfl rfl Try.func30 (by kernel_rfl) rfl #[.agg #[.int .u64 a0_0, .slice A0_1 l0_1.length c0_1], .int .i64 a2] rfl (by (try simp only [List.map_toArray, List.map_cons, List.map_nil]);first|done|rfl|(simp only [List.length_drop, List.length_take];rfl)) ?_;(with_reducible refine (alias_Count.calls kj4 a0_0 _ _ l0_1 a2 t110 t111 false _ ?side1 ?side2 A16.out).mono ?_);(case side1 => repeat (first|exact (Kd.C_below HR0_1.out HB.out)|(with_reducible refine Kd.C_alloc ?_ _)|(with_reducible refine Kd.C_drewN ?_ _)|(with_reducible refine Kd.C_drew ?_)));(case side2 => exact HC0_1.out);rintro e w141 ⟨rfl, hb⟩;refine ⟨_, rfl, ?_⟩;have n0_ := Aside0.mk (Kd.R_below (by (with_reducible repeat (first|apply Kd.R_alloc|apply Kd.R_drewN|apply Kd.R_drew));exact HO105.out) hb);have n1_ := Aside0.mk (blk_below (g := gb101) (o := .cells #[.int .u64 a0_0, .slice A0_1 l0_1.length c0_1] 53 (0, 0)) (by (with_reducible repeat (first|refine blk_drewN ?_ _|refine blk_drew ?_|refine blk_alloc ?_ _));exact BK101.out) hb);have n2_ := Aside0.mk (below_step (by repeat (first|(with_reducible first|exact HB.out|apply below_alloc|apply pw_below_drewN|apply below_drew1|refine below_set ?_ GE101.out)|exact HB.out)) hb);clear HO105;clear BK101;clear HB;have HO105 := n0_;have BK101 := n1_;have HB := n2_;clear n0_ n1_ n2_;(try clear hb);(try clear hb2);(try clear hk);(try clear hi))|((with_reducible refine gate_dst (N := 14) rfl ?_);(try (refine gate_guard (by rfl) ?_;dsimp only));refine box_event ?hg (N := 14) ?hd (cs := #[.int .u64 0, .int .u64 0]) (t := 26) ?hr ?_;(case hd => rfl);(case hg => rfl);(case hr => first|(go_simp;done)|(go_simp;rfl));intro gb113 hg w142 hbox hb;have n0_ := Aside0.mk (Kd.R_below (by (with_reducible repeat (first|apply Kd.R_alloc|apply Kd.R_drewN|apply Kd.R_drew));exact HO105.out) hb);have n1_ := Aside0.mk (blk_below (g := gb101) (o := .cells #[.int .u64 a0_0, .slice A0_1 l0_1.length c0_1] 53 (0, 0)) (by (with_reducible repeat (first|refine blk_drewN ?_ _|refine blk_drew ?_|refine blk_alloc ?_ _));exact BK101.out) hb);have n2_ := Aside0.mk (below_step (by repeat (first|(with_reducible first|exact HB.out|apply below_alloc|apply pw_below_drewN|apply below_drew1|refine below_set ?_ GE101.out)|exact HB.out)) hb);have n3_ := Aside0.mk (hbox);have n4_ := Aside0.mk ((by rw [hg];exact (below_size (by repeat (first|(with_reducible first|exact HB.out|apply below_alloc|apply pw_below_drewN|apply below_drew1|refine below_set ?_ GE101.out)|exact HB.out))) : w.heap.size ≤ gb113));have n5_ := Aside0.mk ((by rw [hg];exact (below_size (by repeat (first|(with_reducible first|exact HB.out|apply below_alloc|apply pw_below_drewN|apply below_drew1|refine below_set ?_ GE101.out)|exact HB.out))) : w.heap.size ≤ gb113));have n6_ := Aside0.mk ((by rw [hg];exact Nat.ne_of_lt (blk_lt (g := gb101) (o := .cells #[.int .u64 a0_0, .slice A0_1 l0_1.length c0_1] 53 (0, 0)) (by (with_reducible repeat (first|refine blk_drewN ?_ _|refine blk_drew ?_|refine blk_alloc ?_ _));exact BK101.out)) : gb101 ≠ gb113));have n7_ := Aside0.mk ((by rw [hg];exact Nat.ne_of_gt (blk_lt (g := gb101) (o := .cells #[.int .u64 a0_0, .slice A0_1 l0_1.length c0_1] 53 (0, 0)) (by (with_reducible repeat (first|refine blk_drewN ?_ _|refine blk_drew ?_|refine blk_alloc ?_ _));exact BK101.out)) : gb113 ≠ gb101));clear HO105;clear BK101;clear HB;have HO105 := n0_;have BK101 := n1_;have HB := n2_;have BK113 := n3_;have GW113 := n4_;have GE113 := n5_;have NB101_113 := n6_;have NB113_101 := n7_;clear n0_ n1_ n2_ n3_ n4_ n5_ n6_ n7_;clear hb hbox hg;have hnb143 := NB113_101.out;have hnc143 := NB101_113.out;have hcz144_0 : w142.cell? ⟨gb113, 0, none⟩ = some (.int .u64 0) := (blk_cell BK113.out 0).trans rfl;have hcz144_1 : w142.cell? ⟨gb113, 1, none⟩ = some (.int .u64 0) := (blk_cell BK113.out 1).trans rfl;have hfz144_0 := blk_frozen BK113.out 0;have hfz144_1 := blk_frozen BK113.out 1;have hcz145_0 : w142.cell? ⟨gb101, 0, none⟩ = some (.int .u64 a0_0) := (blk_cell BK101.out 0).trans rfl;have hcz145_1 : w142.cell? ⟨gb101, 1, none⟩ = some (.slice A0_1 l0_1.length c0_1) := (blk_cell BK101.out 1).trans rfl;have hfz145_0 := blk_frozen BK101.out 0;have hfz145_1 := blk_frozen BK101.out 1;obtain ⟨Ao146, co146, eo146⟩ := Kd.R_slice HO105.out;subst eo146)|((with_reducible refine gate_callee (f := 31) rfl ?_);refine goesL_ (some 57) rfl rfl Try.func31 (by kernel_rfl) rfl #[.int .u64 a0_0, .slice Ao146 t103.length co146] rfl (by (try simp only [List.map_toArray, List.map_cons, List.map_nil]);first|done|rfl|(simp only [List.length_drop, List.length_take];rfl)) ?_;(with_reducible refine (tombolaref12_Right.calls kj4 a0_0 _ _ t103 false _ ?side1 ?side2 A17.out).mono ?_);(case side1 => refine (Kd.R_reads' (e := 66) (base := w.heap.size) (ok := fun k_ => True) (n := t103.length) (c := co146) ?_).2.2;exact (by (with_reducible repeat (first|apply Kd.R_alloc|apply Kd.R_drewN|apply Kd.R_drew));exact (Kd.R_mono (Kd.R_far (p := ⟨gb113, 1, none⟩) (Kd.R_far (p := ⟨gb113, 0, none⟩) (Kd.R_types HO105.out BK113.out (by decide)) (fun _ hk => hk.2) (.int .u64 t110)) (fun _ hk => hk.2) (.int .u64 t111)) (fun _ h_ => h_.1))));(case side2 => exact (Kd.R_reads' HO105.out).2.1);rintro e w' ⟨rfl, ⟨nd, rfl⟩⟩;refine ⟨_, rfl, ?_⟩)|(go_at_call 32;(with_reducible refine (alias_Fair.calls kj4 a0_0 _ _ l0_1 _ _ l3 false _ ?side1 ?side2 ?side3 ?side4 A131.out).mono ?_);(case side1 => exact Kd.C_below HR0_1.out (by repeat (first|(with_reducible first|exact HB.out|apply below_alloc|apply pw_below_drewN|apply below_drew1|refine below_set ?_ GE101.out|refine below_set ?_ GE113.out)|exact HB.out)));(case side2 => exact HC0_1.out);(case side3 => exact Kd.C_below HR3.out (by repeat (first|(with_reducible first|exact HB.out|apply below_alloc|apply pw_below_drewN|apply below_drew1|refine below_set ?_ GE101.out|refine below_set ?_ GE113.out)|exact HB.out)));(case side4 => exact HC3.out);rintro e w147 ⟨rfl, hb⟩;have n0_ := Aside0.mk (Kd.R_below (by (with_reducible repeat (first|apply Kd.R_alloc|apply Kd.R_drewN|apply Kd.R_drew));exact (Kd.R_mono (Kd.R_far (p := ⟨gb113, 1, none⟩) (Kd.R_far (p := ⟨gb113, 0, none⟩) (Kd.R_types HO105.out BK113.out (by decide)) (fun _ hk => hk.2) (.int .u64 t110)) (fun _ hk => hk.2) (.int .u64 t111)) (fun _ h_ => h_.1))) hb);have n1_ := Aside0.mk (blk_below (g := gb101) (o := .cells #[.int .u64 a0_0, .slice A0_1 l0_1.length c0_1] 53 (0, 0)) (by (with_reducible repeat (first|refine blk_drewN ?_ _|refine blk_drew ?_|refine blk_alloc ?_ _));refine blk_far ?_ NB101_113.out _;(with_reducible repeat (first|refine blk_drewN ?_ _|refine blk_drew ?_|refine blk_alloc ?_ _));refine blk_far ?_ NB101_113.out _;(with_reducible repeat (first|refine blk_drewN ?_ _|refine blk_drew ?_|refine blk_alloc ?_ _));exact BK101.out) hb);have n2_ := Aside0.mk (blk_below (g := gb113) (o := .cells #[.int .u64 t110, .int .u64 t111] 26 (0, 0)) (by (with_reducible repeat (first|refine blk_drewN ?_ _|refine blk_drew ?_|refine blk_alloc ?_ _));refine blk_put (cs := #[.int .u64 t110, .int .u64 0]) ?_ 1 _ rfl;(with_reducible repeat (first|refine blk_drewN ?_ _|refine blk_drew ?_|refine blk_alloc ?_ _));refine blk_put (cs := #[.int .u64 0, .int .u64 0]) ?_ 0 _ rfl;(with_reducible repeat (first|refine blk_drewN ?_ _|refine blk_drew ?_|refine blk_alloc ?_ _));exact BK113.out) hb);have n3_ := Aside0.mk (below_step (by repeat (first|(with_reducible first|exact HB.out|apply below_alloc|apply pw_below_drewN|apply below_drew1|refine below_set ?_ GE101.out|refine below_set ?_ GE113.out)|exact HB.out)) hb);clear HO105;clear BK101;clear BK113;clear HB;have HO105 := n0_;have BK101 := n1_;have BK113 := n2_;have HB := n3_;clear n0_ n1_ n2_ n3_;(try clear hb);(try clear hb2);(try clear hk);(try clear hi))|(go_at_call 26;(with_reducible refine (tombolalaw12_alive.calls kj4  t116 _ A133.out).mono ?_);rintro e w148 ⟨rfl, hb⟩;have n0_ := Aside0.mk (Kd.R_below (by (with_reducible repeat (first|apply Kd.R_alloc|apply Kd.R_drewN|apply Kd.R_drew));exact HO105.out) hb);have n1_ := Aside0.mk (blk_below (g := gb101) (o := .cells #[.int .u64 a0_0, .slice A0_1 l0_1.length c0_1] 53 (0, 0)) (by (with_reducible repeat (first|refine blk_drewN ?_ _|refine blk_drew ?_|refine blk_alloc ?_ _));exact BK101.out) hb);have n2_ := Aside0.mk (blk_below (g := gb113) (o := .cells #[.int .u64 t110, .int .u64 t111] 26 (0, 0)) (by (with_reducible repeat (first|refine blk_drewN ?_ _|refine blk_drew ?_|refine blk_alloc ?_ _));exact BK113.out) hb);have n3_ := Aside0.mk (below_step (by repeat (first|(with_reducible first|exact HB.out|apply below_alloc|apply pw_below_drewN|apply below_drew1|refine below_set ?_ GE101.out|refine below_set ?_ GE113.out)|exact HB.out)) hb);clear HO105;clear BK101;clear BK113;clear HB;have HO105 := n0_;have BK101 := n1_;have BK113 := n2_;have HB := n3_;clear n0_ n1_ n2_ n3_;(try clear hb);(try clear hb2);(try clear hk);(try clear hi)))
            go_ret
            exact ⟨by first|rfl|(simp [errW_none, errW_some] <;> rfl)|(simp [*, errW_none, errW_some] <;> rfl), by repeat (first|(with_reducible first|exact HB.out|apply below_alloc|apply pw_below_drewN|apply below_drew1|refine below_set ?_ GE101.out|refine below_set ?_ GE113.out)|exact HB.out)⟩
         ·rw [if_neg c129] at H
          have c129b0 : (t110 == 0 && (t111 == 0)) = false := by simpa using c129
          (try (have c129b1 : decide (t110 = 0 && (t111 == 0)) = false := by simpa using c129))
          (try (have c129b2 : (t110 == 0 && (t111 == 0)) = false := by simpa using c129))
          (try (have c129b3 : ¬ (t110 = 0 && (t111 == 0)) := by simpa using c129))
          clear c129
          exact absurd ((Option.some.inj H).trans ht_.out) (by simp)
       ·rw [if_neg c127] at H
        have c127b0 : (t108 == 0) = false := beq_eq_false_iff_ne.mpr c127
        have c127b1 : (t108 != 0) = true := bne_iff_ne.mpr c127
        exact absurd ((Option.some.inj H).trans ht_.out) (by simp)
     ·rw [if_neg c125] at H
      have c125b0 : (t106 == (-1)) = false := beq_eq_false_iff_ne.mpr c125
      have c125b1 : (t106 != (-1)) = true := bne_iff_ne.mpr c125
      exact absurd ((Option.some.inj H).trans ht_.out) (by simp)
end Go.Proofs.Ytjphoempoinedaa.F
