-- Cut for this claim by a program (wip/prune.py) out of the texts that its bench laid or wrote
import Derived.Test.YtjphoempoinedaaF0
import Derived.Test.YtjphoempoinedaaFAliasA
namespace Go.Proofs.Ytjphoempoinedaa.F
open Go.RowKit Go.Proofs.YtjphoempoinedaaW.PrintWords Go.Proofs.YtjphoempoinedaaW.PrintLast Go.Proofs.YtjphoempoinedaaW.PrintMore
attribute [local go_sem] max2_int min2_int max_two min_two max_three min_three max_four min_four
set_option linter.unusedVariables false
set_option linter.unusedSimpArgs false
mutual
def alias_Build.l0 : Nat → List Int → Int → List Int → List Int → List Int → List Int → Int → Int → Int → List (S107) → Option (Int × (List (S107)) × Int)
 | 0, _, _, _, _, _, _, _, _, _, _ => none
 | k + 1, x0, x4, x7, x8, x9, x31, x32, x33, x108000, x108001 => if x33 < x32 then (if 0 ≤ x33 then (if x33 < (x31.length : Int) then (if x33 < (x108001.length : Int) then ((some (x108001.set (x33 : Int).toNat (⟨x4, x33⟩ : S107) : List (S107))).bind fun y112 => (if x33 < (x7.length : Int) then ((some (x7.set (x33 : Int).toNat (IntKind.u64.wrap ((rd x31 x33) * (IntKind.u64.wrap ((x0.length : Int))))) : List Int)).bind fun y113 => (if (rd y113 x33) < x4 then (if x8.length < 17592186044416 then (alias_Build.l0 k x0 x4 y113 (x8 ++ [x33]) x9 x31 x32 (wrap64 (x33 + 1)) x108000 y112) else (none)) else (if x9.length < 17592186044416 then (alias_Build.l0 k x0 x4 y113 x8 (x9 ++ [x33]) x31 x32 (wrap64 (x33 + 1)) x108000 y112) else (none)))) else (none))) else (none)) else (none)) else (none)) else (alias_Build.l1 k x4 x7 x8 x9 x108000 x108001)
def alias_Build.l1 : Nat → Int → List Int → List Int → List Int → Int → List (S107) → Option (Int × (List (S107)) × Int)
 | 0, _, _, _, _, _, _ => none
 | k + 1, x4, x7, x8, x9, x108000, x108001 => if (x8.length : Int) > 0 then (alias_Build.j2 k x4 x7 x8 x9 (decide ((x9.length : Int) > 0)) x108000 x108001) else (alias_Build.j2 k x4 x7 x8 x9 false x108000 x108001)
def alias_Build.j2 : Nat → Int → List Int → List Int → List Int → Bool → Int → List (S107) → Option (Int × (List (S107)) × Int)
 | 0, _, _, _, _, _, _, _ => none
 | k + 1, x4, x7, x8, x9, x75, x108000, x108001 => if x75 = true then (if 0 ≤ (wrap64 ((x8.length : Int) - 1)) then (if (wrap64 ((x8.length : Int) - 1)) < (x8.length : Int) then (if 0 ≤ (wrap64 ((x9.length : Int) - 1)) then (if (wrap64 ((x9.length : Int) - 1)) < (x9.length : Int) then (if (wrap64 ((x8.length : Int) - 1)) ≤ (x8.length : Int) then ((some (x8.take ((wrap64 ((x8.length : Int) - 1)) : Int).toNat : List Int)).bind fun y123 => (if 0 ≤ (rd x8 (wrap64 ((x8.length : Int) - 1))) then (if (rd x8 (wrap64 ((x8.length : Int) - 1))) < (x7.length : Int) then (if (rd x8 (wrap64 ((x8.length : Int) - 1))) < (x108001.length : Int) then ((some (x108001.set ((rd x8 (wrap64 ((x8.length : Int) - 1))) : Int).toNat (⟨rd x7 (rd x8 (wrap64 ((x8.length : Int) - 1))), rd x9 (wrap64 ((x9.length : Int) - 1))⟩ : S107) : List (S107))).bind fun y127 => (if 0 ≤ (rd x9 (wrap64 ((x9.length : Int) - 1))) then (if (rd x9 (wrap64 ((x9.length : Int) - 1))) < (x7.length : Int) then ((some (x7.set ((rd x9 (wrap64 ((x9.length : Int) - 1))) : Int).toNat (IntKind.u64.wrap ((rd x7 (rd x9 (wrap64 ((x9.length : Int) - 1)))) - (IntKind.u64.wrap (x4 - (rd x7 (rd x8 (wrap64 ((x8.length : Int) - 1)))))))) : List Int)).bind fun y130 => (if (IntKind.u64.wrap ((rd x7 (rd x9 (wrap64 ((x9.length : Int) - 1)))) - (IntKind.u64.wrap (x4 - (rd x7 (rd x8 (wrap64 ((x8.length : Int) - 1)))))))) < x4 then (if (wrap64 ((x9.length : Int) - 1)) ≤ (x9.length : Int) then (if y123.length < 17592186044416 then (alias_Build.l1 k x4 y130 (y123 ++ [rd x9 (wrap64 ((x9.length : Int) - 1))]) (x9.take ((wrap64 ((x9.length : Int) - 1)) : Int).toNat) x108000 y127) else (none)) else (none)) else (alias_Build.l1 k x4 y130 y123 x9 x108000 y127))) else (none)) else (none))) else (none)) else (none)) else (none))) else (none)) else (none)) else (none)) else (none)) else (none)) else (some (x108000, x108001, 0))
end
def alias_Build.f (k : Nat) (l0 : List Int) : Option (Int × (List (S107)) × Int) := (alias_measure.f k l0).bind fun bt102 => (if bt102.2 = 0 then (if 0 ≤ (l0.length : Int) then (if ((l0.length : Int) : Int).toNat ≤ 17592186044416 then (if ((l0.length : Int) : Int).toNat ≤ 35184372088832 then (alias_Build.l0 k l0 bt102.1 (List.replicate ((l0.length : Int) : Int).toNat 0) ([] : List Int) ([] : List Int) l0 (l0.length : Int) 0 bt102.1 (List.replicate ((l0.length : Int) : Int).toNat z107)) else (none)) else (none)) else (none)) else (some (0, ([] : List (S107)), bt102.2)))
theorem alias_Build.mono_l : ∀ k, (∀ y0 y1 y2 y3 y4 y5 y6 y7 y8 y9, LeO (alias_Build.l0 k y0 y1 y2 y3 y4 y5 y6 y7 y8 y9) (alias_Build.l0 (k + 1) y0 y1 y2 y3 y4 y5 y6 y7 y8 y9)) ∧ (∀ y0 y1 y2 y3 y4 y5, LeO (alias_Build.l1 k y0 y1 y2 y3 y4 y5) (alias_Build.l1 (k + 1) y0 y1 y2 y3 y4 y5)) ∧ (∀ y0 y1 y2 y3 y4 y5 y6, LeO (alias_Build.j2 k y0 y1 y2 y3 y4 y5 y6) (alias_Build.j2 (k + 1) y0 y1 y2 y3 y4 y5 y6))
 | 0 => ⟨fun _ _ _ _ _ _ _ _ _ _ r h => by simp [alias_Build.l0] at h, fun _ _ _ _ _ _ r h => by simp [alias_Build.l1] at h, fun _ _ _ _ _ _ _ r h => by simp [alias_Build.j2] at h⟩
 | k + 1 => by
  obtain ⟨ih0, ih1, ih2⟩ := alias_Build.mono_l k
  refine ⟨?_, ?_, ?_⟩
  ·intro y0 y1 y2 y3 y4 y5 y6 y7 y8 y9
   unfold alias_Build.l0
   repeat' first
   | (with_reducible exact ih0 _ _ _ _ _ _ _ _ _ _)
   | (with_reducible exact ih1 _ _ _ _ _ _)
   | (with_reducible exact ih2 _ _ _ _ _ _ _)
   | (with_reducible exact alias_measure.mono _ _)
   | (with_reducible exact LeO.refl _)
   | (with_reducible exact LeO.none _)
   | (with_reducible refine LeO.ite ?_ ?_)
   | (with_reducible refine LeO.bind ?_ (fun _ => ?_))
   | exact ih0 _ _ _ _ _ _ _ _ _ _
   | exact ih1 _ _ _ _ _ _
   | exact ih2 _ _ _ _ _ _ _
   | exact alias_measure.mono _ _
   | exact LeO.none _
   | refine LeO.ite ?_ ?_
   | refine LeO.bind ?_ (fun _ => ?_)
  ·intro y0 y1 y2 y3 y4 y5
   unfold alias_Build.l1
   repeat' first
   | (with_reducible exact ih0 _ _ _ _ _ _ _ _ _ _)
   | (with_reducible exact ih1 _ _ _ _ _ _)
   | (with_reducible exact ih2 _ _ _ _ _ _ _)
   | (with_reducible exact alias_measure.mono _ _)
   | (with_reducible exact LeO.refl _)
   | (with_reducible exact LeO.none _)
   | (with_reducible refine LeO.ite ?_ ?_)
   | (with_reducible refine LeO.bind ?_ (fun _ => ?_))
   | exact ih0 _ _ _ _ _ _ _ _ _ _
   | exact ih1 _ _ _ _ _ _
   | exact ih2 _ _ _ _ _ _ _
   | exact alias_measure.mono _ _
   | exact LeO.none _
   | refine LeO.ite ?_ ?_
   | refine LeO.bind ?_ (fun _ => ?_)
  ·intro y0 y1 y2 y3 y4 y5 y6
   unfold alias_Build.j2
   repeat' first
   | (with_reducible exact ih0 _ _ _ _ _ _ _ _ _ _)
   | (with_reducible exact ih1 _ _ _ _ _ _)
   | (with_reducible exact ih2 _ _ _ _ _ _ _)
   | (with_reducible exact alias_measure.mono _ _)
   | (with_reducible exact LeO.refl _)
   | (with_reducible exact LeO.none _)
   | (with_reducible refine LeO.ite ?_ ?_)
   | (with_reducible refine LeO.bind ?_ (fun _ => ?_))
   | exact ih0 _ _ _ _ _ _ _ _ _ _
   | exact ih1 _ _ _ _ _ _
   | exact ih2 _ _ _ _ _ _ _
   | exact alias_measure.mono _ _
   | exact LeO.none _
   | refine LeO.ite ?_ ?_
   | refine LeO.bind ?_ (fun _ => ?_)
theorem alias_Build.mono : ∀ a0 k, LeO (alias_Build.f k a0) (alias_Build.f (k + 1) a0) := by
 intro a0 k
 obtain ⟨ih0, ih1, ih2⟩ := alias_Build.mono_l k
 unfold alias_Build.f
 repeat' first
   | (with_reducible exact ih0 _ _ _ _ _ _ _ _ _ _)
   | (with_reducible exact ih1 _ _ _ _ _ _)
   | (with_reducible exact ih2 _ _ _ _ _ _ _)
   | (with_reducible exact alias_measure.mono _ _)
   | (with_reducible exact LeO.refl _)
   | (with_reducible exact LeO.none _)
   | (with_reducible refine LeO.ite ?_ ?_)
   | (with_reducible refine LeO.bind ?_ (fun _ => ?_))
   | exact ih0 _ _ _ _ _ _ _ _ _ _
   | exact ih1 _ _ _ _ _ _
   | exact ih2 _ _ _ _ _ _ _
   | exact alias_measure.mono _ _
   | exact LeO.none _
   | refine LeO.ite ?_ ?_
   | refine LeO.bind ?_ (fun _ => ?_)
def alias_Build.T17 : Bool × List (List Nat × List Nat) := (true, [([], []), ([], []), ([1], [1]), ([2], [2]), ([0, 3], [0, 3]), ([4], [4]), ([], []), ([], []), ([7], [7]), ([8], [8]), ([6, 9], [6, 9]), ([10], [10]), ([5, 0, 1, 2, 3, 4, 5], [5]), ([11, 12, 0, 1, 2, 3, 4, 5, 6, 7, 8, 9, 10, 11, 12], [11])])
def alias_Build.B17 : List Nat := [0, 0, 2, 6, 15, 31, 0, 0, 128, 384, 960, 1984, 63, 8191]
theorem alias_Build.tab17 : rtab .any (opsOf Try.f39 17) = alias_Build.T17 := by kernel_rfl
theorem alias_Build.bits17 : waitsOk alias_Build.T17.2 alias_Build.B17 = true := by kernel_rfl
def alias_Build.T19 : Bool × List (List Nat × List Nat) := (true, [([], []), ([0], [0]), ([], []), ([], []), ([], []), ([3, 4], [3, 4]), ([5], [5]), ([], []), ([6, 7], [6, 7]), ([1, 2, 0, 1, 2, 3, 4, 5, 6, 7, 8], [1, 2]), ([9, 8, 0, 1, 2, 3, 4, 5, 6, 7, 8], [8, 9])])
def alias_Build.B19 : List Nat := [0, 1, 0, 0, 0, 24, 56, 0, 248, 511, 1023]
theorem alias_Build.tab19 : rtab .any (opsOf Try.f39 19) = alias_Build.T19 := by kernel_rfl
theorem alias_Build.bits19 : waitsOk alias_Build.T19.2 alias_Build.B19 = true := by kernel_rfl
def alias_Build.T20 : Bool × List (List Nat × List Nat) := (true, [([], []), ([], []), ([0, 1], [0, 1]), ([2], [2]), ([], []), ([], []), ([], []), ([5, 6], [5, 6]), ([7], [7]), ([4, 8], [4, 8]), ([3, 9], [3, 9]), ([0, 1, 0, 1, 2, 3, 4, 5, 6, 7, 8, 9, 10], [0, 1]), ([11, 10, 0, 1, 2, 3, 4, 5, 6, 7, 8, 9, 10], [10, 11])])
def alias_Build.B20 : List Nat := [0, 0, 3, 7, 0, 0, 0, 96, 224, 496, 1023, 2047, 4095]
theorem alias_Build.tab20 : rtab .any (opsOf Try.f39 20) = alias_Build.T20 := by kernel_rfl
theorem alias_Build.bits20 : waitsOk alias_Build.T20.2 alias_Build.B20 = true := by kernel_rfl
theorem set_own (xs : List Int) (i v : Int) (h0 : 0 ≤ i) (h1 : i < (xs.length : Int)) : rdOf 0 (xs.set i.toNat v) i = v := by
  unfold rdOf
  rw [List.getD_eq_getElem?_getD, List.getElem?_set_self (by omega)]; rfl
set_option maxHeartbeats 8000000 in
set_option maxRecDepth 100000 in
theorem alias_Build.calls (k : Nat) (A0 : Option Addr) (c0 : Nat) (l0 : List Int) (r1 : Int) (r2 : List (S107)) (r3 : Int) (w : World) (hr0 : Kd.C (Kd.int .u64) w A0 l0.length l0) (hc0 : l0.length ≤ c0) (h : alias_Build.f k l0 = some (r1, r2, r3)) :
  Calls Try.prog 39 #[.slice A0 l0.length c0] w fun e w' => ∃ v1_ : Value, e = .returned (.tuple #[.agg #[.int .u64 r1, v1_], .int .i64 r3]) ∧ Kd.R k107 107 w' w.heap.size (fun _ => True) v1_ r2 ∧ Below w.heap.size w w' := by
 have hu53 := Try.underlying53
 have hu107 := Try.underlying107
 have HR0 := Aside0.mk hr0
 have HC0 := Aside0.mk hc0
 clear hr0 hc0
 have HB := Aside0.mk (Below.refl w.heap.size w)
 have H : ((alias_measure.f k l0).bind fun bt102 => (if bt102.2 = 0 then (if 0 ≤ (l0.length : Int) then (if ((l0.length : Int) : Int).toNat ≤ 17592186044416 then (if ((l0.length : Int) : Int).toNat ≤ 35184372088832 then (alias_Build.l0 k l0 bt102.1 (List.replicate ((l0.length : Int) : Int).toNat 0) ([] : List Int) ([] : List Int) l0 (l0.length : Int) 0 bt102.1 (List.replicate ((l0.length : Int) : Int).toNat z107)) else (none)) else (none)) else (none)) else (some (0, ([] : List (S107)), bt102.2)))) = some (r1, r2, r3) := h
 clear h
 replace H := Option.bind_eq_some_iff.mp H
 obtain ⟨⟨t102, t103⟩, A20, H⟩ := H
 replace H : (if t103 = 0 then (if 0 ≤ (l0.length : Int) then (if ((l0.length : Int) : Int).toNat ≤ 17592186044416 then (if ((l0.length : Int) : Int).toNat ≤ 35184372088832 then (alias_Build.l0 k l0 t102 (List.replicate ((l0.length : Int) : Int).toNat 0) ([] : List Int) ([] : List Int) l0 (l0.length : Int) 0 t102 (List.replicate ((l0.length : Int) : Int).toNat z107)) else (none)) else (none)) else (none)) else (some (0, ([] : List (S107)), t103))) = some (r1, r2, r3) := H
 have A2 := Aside0.mk A20
 clear A20
 by_cases c3 : t103 = 0
 ·rw [if_pos c3] at H
  have c3b0 : (t103 == 0) = true := beq_iff_eq.mpr c3
  have c3b1 : (t103 != 0) = false := bne_eq_false_iff_eq.mpr c3
  clear c3
  by_cases c4 : 0 ≤ (l0.length : Int)
  ·rw [if_pos c4] at H
   have c4b0 := eq_true c4
   have c4b1 : decide (0 ≤ (l0.length : Int)) = true := decide_eq_true c4
   clear c4
   by_cases c5 : ((l0.length : Int) : Int).toNat ≤ 17592186044416
   ·rw [if_pos c5] at H
    have c5b0 := eq_true c5
    have c5b1 : decide (((l0.length : Int) : Int).toNat ≤ 17592186044416) = true := decide_eq_true c5
    clear c5
    obtain ⟨y104, hy104⟩ : ∃ y_ : List (S107), y_ = (List.replicate ((l0.length : Int) : Int).toNat z107) := ⟨_, rfl⟩
    replace H : (if ((l0.length : Int) : Int).toNat ≤ 35184372088832 then (alias_Build.l0 k l0 t102 (List.replicate ((l0.length : Int) : Int).toNat 0) ([] : List Int) ([] : List Int) l0 (l0.length : Int) 0 t102 y104) else (none)) = some (r1, r2, r3) := by first|(rw [hy104];with_reducible exact H)|(have H2_ := (Option.bind_some _ _).symm.trans H;rw [hy104];with_reducible exact H2_)|(have H2_ := (Option.bind_some _ _).symm.trans H;with_reducible exact H2_)|with_reducible exact H|(rw [hy104];exact H)|exact H
    have Ny104 := Aside0.mk hy104
    clear hy104
    by_cases c6 : ((l0.length : Int) : Int).toNat ≤ 35184372088832
    ·rw [if_pos c6] at H
     have c6b0 := eq_true c6
     have c6b1 : decide (((l0.length : Int) : Int).toNat ≤ 35184372088832) = true := decide_eq_true c6
     clear c6
     obtain ⟨y108, hy108⟩ : ∃ y_ : List Int, y_ = (List.replicate ((l0.length : Int) : Int).toNat 0) := ⟨_, rfl⟩
     replace H : (alias_Build.l0 k l0 t102 y108 ([] : List Int) ([] : List Int) l0 (l0.length : Int) 0 t102 y104) = some (r1, r2, r3) := by first|(rw [hy108];with_reducible exact H)|(have H2_ := (Option.bind_some _ _).symm.trans H;rw [hy108];with_reducible exact H2_)|(have H2_ := (Option.bind_some _ _).symm.trans H;with_reducible exact H2_)|with_reducible exact H|(rw [hy108];exact H)|exact H
     have Ny108 := Aside0.mk hy108
     clear hy108
     have H' := Aside0.mk H
     clear H
     go_enter Try.func39, Try.ntmps39
     go_wp2_with (first|((with_reducible refine gate_dst (N := 2) rfl ?_);(try (refine gate_guard (by rfl) ?_;dsimp only));refine box_event ?hg (N := 2) ?hd (cs := #[.int .u64 0, .slice none 0 0]) (t := 53) ?hr ?_;(case hd => rfl);(case hg => rfl);(case hr => first|(go_simp;done)|(go_simp;rfl));intro gb101 hg w7 hbox hb;have n0_ := Aside0.mk (below_step (by repeat (first|(with_reducible first|exact HB.out|apply below_alloc|apply pw_below_drewN|apply below_drew1)|exact HB.out)) hb);have n1_ := Aside0.mk (hbox);have n2_ := Aside0.mk ((by rw [hg];exact (below_size (by repeat (first|(with_reducible first|exact HB.out|apply below_alloc|apply pw_below_drewN|apply below_drew1)|exact HB.out))) : w.heap.size ≤ gb101));have n3_ := Aside0.mk ((by rw [hg];exact (below_size (by repeat (first|(with_reducible first|exact HB.out|apply below_alloc|apply pw_below_drewN|apply below_drew1)|exact HB.out))) : w.heap.size ≤ gb101));clear HB;have HB := n0_;have BK101 := n1_;have GW101 := n2_;have GE101 := n3_;clear n0_ n1_ n2_ n3_;clear hb hbox hg)|((with_reducible refine gate_callee (f := 69) rfl ?_);refine goesL_ (some 16) rfl rfl Try.func69 (by kernel_rfl) rfl #[.slice A0 l0.length c0] rfl (by (try simp only [List.map_toArray, List.map_cons, List.map_nil]);first|done|rfl|(simp only [List.length_drop, List.length_take];rfl)) ?_;(with_reducible refine (alias_measure.calls k _ _ l0 t102 t103 _ ?side1 ?side2 A2.out).mono ?_);(case side1 => repeat (first|exact (Kd.C_below HR0.out HB.out)|(with_reducible refine Kd.C_alloc ?_ _)|(with_reducible refine Kd.C_drewN ?_ _)|(with_reducible refine Kd.C_drew ?_)));(case side2 => exact HC0.out);rintro e w8 ⟨rfl, hb⟩;refine ⟨_, rfl, ?_⟩;have n0_ := Aside0.mk (blk_below (g := gb101) (o := .cells #[.int .u64 0, .slice none 0 0] 53 (0, 0)) (by (with_reducible repeat (first|refine blk_drewN ?_ _|refine blk_drew ?_|refine blk_alloc ?_ _));exact BK101.out) hb);have n1_ := Aside0.mk (below_step (by repeat (first|(with_reducible first|exact HB.out|apply below_alloc|apply pw_below_drewN|apply below_drew1|refine below_set ?_ GE101.out)|exact HB.out)) hb);clear BK101;clear HB;have BK101 := n0_;have HB := n1_;clear n0_ n1_;(try clear hb);(try clear hb2);(try clear hk);(try clear hi))|((with_reducible refine gate_dst (N := 26) rfl ?_);(try (refine gate_guard (by rfl) ?_;dsimp only));refine Kd.R_make k107 _ 107 rfl (N := 26) rfl 51 _ _ rfl (l0.length : Int) rfl rfl Try.underlying51 (.agg #[(.int .u64 0), (.int .i64 0)]) 16 info107 rfl (by decide) (by omega) z107 (ok := fun _ => True) (okp := fun _ => True) (k107_mkM _ _ _ z107 ) (fun _ hk => hk) trivial (of_decide_eq_true (by first|(with_reducible assumption)|assumption)) (Nat.le_trans (Nat.mul_le_mul_right _ (of_decide_eq_true (by first|(with_reducible assumption)|assumption) : (l0.length : Int).toNat ≤ 17592186044416)) (by omega)) (Below.refl _ _) (Nat.le_refl _) ?_;intro v105 w9 ho10 hb hg_ hnew_;clear hg_ hnew_;(first|rw [← Ny104.out] at ho10|(simp only [Int.reduceToNat] at ho10;rw [← Ny104.out] at ho10));have n0_ := Aside0.mk (Kd.R_lower ho10 (below_size (by repeat (first|(with_reducible first|exact HB.out|apply below_alloc|apply pw_below_drewN|apply below_drew1|refine below_set ?_ GE101.out)|exact HB.out))));have n1_ := Aside0.mk (blk_below (g := gb101) (o := .cells #[.int .u64 0, .slice none 0 0] 53 (0, 0)) (by (with_reducible repeat (first|refine blk_drewN ?_ _|refine blk_drew ?_|refine blk_alloc ?_ _));exact BK101.out) hb);have n2_ := Aside0.mk (below_step (by repeat (first|(with_reducible first|exact HB.out|apply below_alloc|apply pw_below_drewN|apply below_drew1|refine below_set ?_ GE101.out)|exact HB.out)) hb);clear BK101;clear HB;have HO106 := n0_;have BK101 := n1_;have HB := n2_;clear n0_ n1_ n2_;clear hb ho10;obtain ⟨Ao11, co11, eo11⟩ := Kd.R_slice HO106.out;subst eo11)|((with_reducible refine gate_dst (N := 6) rfl ?_);(try (refine gate_guard (by rfl) ?_;dsimp only));refine box_event ?hg (N := 6) ?hd (cs := #[.int .u64 0, .slice none 0 0]) (t := 53) ?hr ?_;(case hd => rfl);(case hg => rfl);(case hr => first|(go_simp;done)|(go_simp;rfl));intro gb107 hg w12 hbox hb;have n0_ := Aside0.mk (Kd.R_below (by (with_reducible repeat (first|apply Kd.R_alloc|apply Kd.R_drewN|apply Kd.R_drew));exact HO106.out) hb);have n1_ := Aside0.mk (blk_below (g := gb101) (o := .cells #[.int .u64 0, .slice none 0 0] 53 (0, 0)) (by (with_reducible repeat (first|refine blk_drewN ?_ _|refine blk_drew ?_|refine blk_alloc ?_ _));exact BK101.out) hb);have n2_ := Aside0.mk (below_step (by repeat (first|(with_reducible first|exact HB.out|apply below_alloc|apply pw_below_drewN|apply below_drew1|refine below_set ?_ GE101.out)|exact HB.out)) hb);have n3_ := Aside0.mk (hbox);have n4_ := Aside0.mk ((by rw [hg];exact (below_size (by repeat (first|(with_reducible first|exact HB.out|apply below_alloc|apply pw_below_drewN|apply below_drew1|refine below_set ?_ GE101.out)|exact HB.out))) : w.heap.size ≤ gb107));have n5_ := Aside0.mk ((by rw [hg];exact (below_size (by repeat (first|(with_reducible first|exact HB.out|apply below_alloc|apply pw_below_drewN|apply below_drew1|refine below_set ?_ GE101.out)|exact HB.out))) : w.heap.size ≤ gb107));have n6_ := Aside0.mk ((by rw [hg];exact Nat.ne_of_lt (blk_lt (g := gb101) (o := .cells #[.int .u64 0, .slice none 0 0] 53 (0, 0)) (by (with_reducible repeat (first|refine blk_drewN ?_ _|refine blk_drew ?_|refine blk_alloc ?_ _));exact BK101.out)) : gb101 ≠ gb107));have n7_ := Aside0.mk ((by rw [hg];exact Nat.ne_of_gt (blk_lt (g := gb101) (o := .cells #[.int .u64 0, .slice none 0 0] 53 (0, 0)) (by (with_reducible repeat (first|refine blk_drewN ?_ _|refine blk_drew ?_|refine blk_alloc ?_ _));exact BK101.out)) : gb107 ≠ gb101));clear HO106;clear BK101;clear HB;have HO106 := n0_;have BK101 := n1_;have HB := n2_;have BK107 := n3_;have GW107 := n4_;have GE107 := n5_;have NB101_107 := n6_;have NB107_101 := n7_;clear n0_ n1_ n2_ n3_ n4_ n5_ n6_ n7_;clear hb hbox hg;have hnb13 := NB107_101.out;have hnc13 := NB101_107.out;have hcz14_0 : w12.cell? ⟨gb107, 0, none⟩ = some (.int .u64 0) := (blk_cell BK107.out 0).trans rfl;have hcz14_1 : w12.cell? ⟨gb107, 1, none⟩ = some (.slice none 0 0) := (blk_cell BK107.out 1).trans rfl;have hfz14_0 := blk_frozen BK107.out 0;have hfz14_1 := blk_frozen BK107.out 1)|((with_reducible refine gate_dst (N := 30) rfl ?_);(try (refine gate_guard (by rfl) ?_;dsimp only));refine Kd.R_make (Kd.int .u64) _ 22 rfl (N := 30) rfl 39 _ _ rfl (l0.length : Int) rfl rfl Try.underlying39 (.int .u64 0) 8 info22 rfl (by decide) (by omega) 0 (ok := fun _ => True) (okp := fun _ => True) rfl (fun _ hk => hk) trivial (of_decide_eq_true (by first|(with_reducible assumption)|assumption)) (Nat.le_trans (Nat.mul_le_mul_right _ (of_decide_eq_true (by first|(with_reducible assumption)|assumption) : (l0.length : Int).toNat ≤ 35184372088832)) (by omega)) (Below.refl _ _) (Nat.le_refl _) ?_;intro v109 w15 ho16 hb hg_ hnew_;clear hg_ hnew_;(first|rw [← Ny108.out] at ho16|(simp only [Int.reduceToNat] at ho16;rw [← Ny108.out] at ho16));have n0_ := Aside0.mk (Kd.R_below (by (with_reducible repeat (first|apply Kd.R_alloc|apply Kd.R_drewN|apply Kd.R_drew));exact (Kd.R_mono (Kd.R_far (p := ⟨gb107, 1, none⟩) (Kd.R_far (p := ⟨gb107, 0, none⟩) (Kd.R_types HO106.out BK107.out (by decide)) (fun _ hk => hk.2) (.int .u64 t102)) (fun _ hk => hk.2) (.slice Ao11 y104.length co11)) (fun _ h_ => h_.1))) hb);have n1_ := Aside0.mk (Kd.R_lower ho16 (below_size (by repeat (first|(with_reducible first|exact HB.out|apply below_alloc|apply pw_below_drewN|apply below_drew1|refine below_set ?_ GE101.out|refine below_set ?_ GE107.out)|exact HB.out))));have n2_ := Aside0.mk (blk_below (g := gb101) (o := .cells #[.int .u64 0, .slice none 0 0] 53 (0, 0)) (by (with_reducible repeat (first|refine blk_drewN ?_ _|refine blk_drew ?_|refine blk_alloc ?_ _));refine blk_far ?_ NB101_107.out _;(with_reducible repeat (first|refine blk_drewN ?_ _|refine blk_drew ?_|refine blk_alloc ?_ _));refine blk_far ?_ NB101_107.out _;(with_reducible repeat (first|refine blk_drewN ?_ _|refine blk_drew ?_|refine blk_alloc ?_ _));exact BK101.out) hb);have n3_ := Aside0.mk (blk_below (g := gb107) (o := .cells #[.int .u64 t102, .slice Ao11 y104.length co11] 53 (0, 0)) (by (with_reducible repeat (first|refine blk_drewN ?_ _|refine blk_drew ?_|refine blk_alloc ?_ _));refine blk_put (cs := #[.int .u64 t102, .slice none 0 0]) ?_ 1 _ rfl;(with_reducible repeat (first|refine blk_drewN ?_ _|refine blk_drew ?_|refine blk_alloc ?_ _));refine blk_put (cs := #[.int .u64 0, .slice none 0 0]) ?_ 0 _ rfl;(with_reducible repeat (first|refine blk_drewN ?_ _|refine blk_drew ?_|refine blk_alloc ?_ _));exact BK107.out) hb);have n4_ := Aside0.mk (below_step (by repeat (first|(with_reducible first|exact HB.out|apply below_alloc|apply pw_below_drewN|apply below_drew1|refine below_set ?_ GE101.out|refine below_set ?_ GE107.out)|exact HB.out)) hb);clear HO106;clear BK101;clear BK107;clear HB;have HO106 := n0_;have HO110 := n1_;have BK101 := n2_;have BK107 := n3_;have HB := n4_;clear n0_ n1_ n2_ n3_ n4_;clear hb ho16))
     go_loopg [8, 9, 33] k (fun kq v8 v9 v33 w' => ∃ (x7_1 : List Int) (x8_1 : List Int) (x9_1 : List Int) (x33_1 : Int) (x108001_1 : List (S107)) (u108001 : Value), v33 = .int .i64 x33_1 ∧ Aside0 (alias_Build.l0 kq l0 t102 x7_1 x8_1 x9_1 l0 (l0.length : Int) x33_1 t102 x108001_1 = some (r1, r2, r3)) ∧ Aside0 (kq ≤ k) ∧ Aside0 (Kd.R (Kd.int .u64) 22 w' w.heap.size (fun _ => True) v109 x7_1) ∧ Aside0 (Kd.R (Kd.int .i64) 3 w' w.heap.size (fun k_ => some k_ ≠ (v9 : Value).ownBlock) v8 x8_1) ∧ Aside0 (Kd.R (Kd.int .i64) 3 w' w.heap.size (fun k_ => some k_ ≠ (v8 : Value).ownBlock) v9 x9_1) ∧ Aside0 (Kd.R k107 107 w' w.heap.size (fun _ => True) u108001 x108001_1) ∧ Aside0 (w'.heap[gb101]? = some (.cells #[.int .u64 0, (.slice none 0 0)] 53 (0, 0))) ∧ Aside0 (w'.heap[gb107]? = some (.cells #[.int .u64 t102, u108001] 53 (0, 0))) ∧ Aside0 (Below w.heap.size w w'))
     case atStart => exact ⟨(y108), (([] : List Int)), (([] : List Int)), (0), (y104), (.slice Ao11 y104.length co11), (by first|rfl|(simp;done)|(simp [*];done)), H', ⟨Nat.le_refl _⟩, ⟨by (with_reducible repeat (first|apply Kd.R_alloc|apply Kd.R_drewN|apply Kd.R_drew));exact HO110.out⟩, ⟨by first|exact Kd.R_nil _ _ _ _ _|exact Kd.N_nil _ _ _ _ _|exact Kd.V_nil _ _ _ _ _|exact Kd.Q_nil _ _ _ _ _|exact Kd.S_nil _ _ _ _ _⟩, ⟨by first|exact Kd.R_nil _ _ _ _ _|exact Kd.N_nil _ _ _ _ _|exact Kd.V_nil _ _ _ _ _|exact Kd.Q_nil _ _ _ _ _|exact Kd.S_nil _ _ _ _ _⟩, ⟨by (with_reducible repeat (first|apply Kd.R_alloc|apply Kd.R_drewN|apply Kd.R_drew));exact HO106.out⟩, ⟨by (with_reducible repeat (first|refine blk_drewN ?_ _|refine blk_drew ?_|refine blk_alloc ?_ _));exact BK101.out⟩, ⟨by (with_reducible repeat (first|refine blk_drewN ?_ _|refine blk_drew ?_|refine blk_alloc ?_ _));exact BK107.out⟩, ⟨by repeat (first|(with_reducible first|exact HB.out|apply below_alloc|apply pw_below_drewN|apply below_drew1|refine below_set ?_ GE101.out|refine below_set ?_ GE107.out)|exact HB.out)⟩⟩
     case round =>
      clear H'
      try clear c1
      try clear p2
      try clear c3
      try clear c3b0
      try clear c3b1
      try clear c4
      try clear c4b0
      try clear c4b1
      try clear c5
      try clear c5b0
      try clear c5b1
      try clear c6
      try clear c6b0
      try clear c6b1
      try clear c13
      try clear hcz14_0
      try clear hcz14_1
      try clear hfz14_0
      try clear hfz14_1
      obtain ⟨x7_1, x8_1, x9_1, x33_1, x108001_1, u108001, rfl, HA, HK1, HO_7, HO_8, HO_9, HO_108001, BK101, BK107, HB⟩ := hrel
      cases gk with
      | zero => exact absurd HA.out (by simp [alias_Build.l0])
      | succ k1 =>
       have H := HA.out
       clear HA
       simp only [alias_Build.l0] at H
       by_cases c17 : x33_1 < (l0.length : Int)
       ·rw [if_pos c17] at H
        have c17b0 : decide (x33_1 < (l0.length : Int)) = true := decide_eq_true c17
        clear c17
        by_cases c18 : 0 ≤ x33_1
        ·rw [if_pos c18] at H
         have c18b0 : decide (0 ≤ x33_1) = true := decide_eq_true c18
         clear c18
         by_cases c19 : x33_1 < (l0.length : Int)
         ·rw [if_pos c19] at H
          have c19b0 : decide (x33_1 < (l0.length : Int)) = true := decide_eq_true c19
          clear c19
          by_cases c20 : x33_1 < (x108001_1.length : Int)
          ·rw [if_pos c20] at H
           have c20b0 : decide (x33_1 < (x108001_1.length : Int)) = true := decide_eq_true c20
           clear c20
           obtain ⟨y112, hy112⟩ : ∃ y_ : List (S107), y_ = (x108001_1.set (x33_1 : Int).toNat (⟨t102, x33_1⟩ : S107)) := ⟨_, rfl⟩
           replace H : (if x33_1 < (x7_1.length : Int) then ((some (x7_1.set (x33_1 : Int).toNat (IntKind.u64.wrap ((rd l0 x33_1) * (IntKind.u64.wrap ((l0.length : Int))))) : List Int)).bind fun y113 => (if (rd y113 x33_1) < t102 then (if x8_1.length < 17592186044416 then (alias_Build.l0 k1 l0 t102 y113 (x8_1 ++ [x33_1]) x9_1 l0 (l0.length : Int) (wrap64 (x33_1 + 1)) t102 y112) else (none)) else (if x9_1.length < 17592186044416 then (alias_Build.l0 k1 l0 t102 y113 x8_1 (x9_1 ++ [x33_1]) l0 (l0.length : Int) (wrap64 (x33_1 + 1)) t102 y112) else (none)))) else (none)) = some (r1, r2, r3) := by first|(rw [hy112];with_reducible exact H)|(have H2_ := (Option.bind_some _ _).symm.trans H;rw [hy112];with_reducible exact H2_)|(have H2_ := (Option.bind_some _ _).symm.trans H;with_reducible exact H2_)|with_reducible exact H|(rw [hy112];exact H)|exact H
           have Ny112 := Aside0.mk hy112
           clear hy112
           by_cases c22 : x33_1 < (x7_1.length : Int)
           ·rw [if_pos c22] at H
            have c22b0 : decide (x33_1 < (x7_1.length : Int)) = true := decide_eq_true c22
            clear c22
            obtain ⟨y113, hy113⟩ : ∃ y_ : List Int, y_ = (x7_1.set (x33_1 : Int).toNat (IntKind.u64.wrap ((rd l0 x33_1) * (IntKind.u64.wrap ((l0.length : Int)))))) := ⟨_, rfl⟩
            replace H : (if (rd y113 x33_1) < t102 then (if x8_1.length < 17592186044416 then (alias_Build.l0 k1 l0 t102 y113 (x8_1 ++ [x33_1]) x9_1 l0 (l0.length : Int) (wrap64 (x33_1 + 1)) t102 y112) else (none)) else (if x9_1.length < 17592186044416 then (alias_Build.l0 k1 l0 t102 y113 x8_1 (x9_1 ++ [x33_1]) l0 (l0.length : Int) (wrap64 (x33_1 + 1)) t102 y112) else (none))) = some (r1, r2, r3) := by first|(rw [hy113];with_reducible exact H)|(have H2_ := (Option.bind_some _ _).symm.trans H;rw [hy113];with_reducible exact H2_)|(have H2_ := (Option.bind_some _ _).symm.trans H;with_reducible exact H2_)|with_reducible exact H|(rw [hy113];exact H)|exact H
            have Ny113 := Aside0.mk hy113
            clear hy113
            by_cases c24 : (rd y113 x33_1) < t102
            ·rw [if_pos c24] at H
             have c24b0 : decide ((rd y113 x33_1) < t102) = true := decide_eq_true c24
             clear c24
             by_cases c25 : x8_1.length < 17592186044416
             ·rw [if_pos c25] at H
              have LMc25 := Aside0.mk c25
              clear c25
              obtain ⟨y115, hy115⟩ : ∃ y_ : List Int, y_ = (x8_1 ++ [x33_1]) := ⟨_, rfl⟩
              replace H : (alias_Build.l0 k1 l0 t102 y113 y115 x9_1 l0 (l0.length : Int) (wrap64 (x33_1 + 1)) t102 y112) = some (r1, r2, r3) := by first|(rw [hy115];with_reducible exact H)|(have H2_ := (Option.bind_some _ _).symm.trans H;rw [hy115];with_reducible exact H2_)|(have H2_ := (Option.bind_some _ _).symm.trans H;with_reducible exact H2_)|with_reducible exact H|(rw [hy115];exact H)|exact H
              have Ny115 := Aside0.mk hy115
              clear hy115
              have H' := Aside0.mk H
              clear H
              have p111 : 0 ≤ (x33_1 : Int) := of_decide_eq_true (by first|(with_reducible assumption)|assumption)
              have q111 : x33_1 < (l0.length : Int) := of_decide_eq_true (by first|(with_reducible assumption)|assumption)
              obtain ⟨ad111, e111, hx111_0⟩ := Kd.at_int HR0.out x33_1 p111 q111
              cases e111
              replace hx111_0 := (HB.out.cell (World.block_lt_of_cell? w _ hx111_0)).trans hx111_0
              replace p111 := eq_true p111
              replace q111 := eq_true q111
              have hnb26 := NB107_101.out
              have hnc26 := NB101_107.out
              have hcz27_0 : wr.cell? ⟨gb107, 0, none⟩ = some (.int .u64 t102) := (blk_cell BK107.out 0).trans rfl
              have hcz27_1 : wr.cell? ⟨gb107, 1, none⟩ = some (u108001) := (blk_cell BK107.out 1).trans rfl
              have hfz27_0 := blk_frozen BK107.out 0
              have hfz27_1 := blk_frozen BK107.out 1
              have p21 : 0 ≤ (x33_1 : Int) := of_decide_eq_true (by first|(with_reducible assumption)|assumption)
              have q21 : (x33_1 : Int) < ((x108001_1.length : Int) : Int) := of_decide_eq_true (by first|(with_reducible assumption)|assumption)
              obtain ⟨go21, co21, eo21, gb21, gl21, cl21, HG21⟩ := Kd.R_form HO_108001.out (by omega)
              (first|cases eo21|(injection eo21 with ea_ en_ ec_;(first|subst ea_|(injection ea_ with ea_;subst ea_));subst ec_;clear en_))
              have GB21 := Aside0.mk gb21
              have GG21 := Aside0.mk HG21
              clear gb21 gl21 HG21
              obtain ⟨ce21, hcl21, hM21, hcc21, hfr21⟩ := Kd.R_elem HO_108001.out z107 (x33_1 : Int) p21 q21
              obtain rfl := k107_openM hM21
              have hx21_0 : wr.cell? ⟨go21, (x33_1 : Int).toNat * 2, none⟩ = some (.int .u64 ((rd_T107 x108001_1 x33_1).f0)) := hcc21 0 _ rfl
              have hx21_1 : wr.cell? ⟨go21, (x33_1 : Int).toNat * 2 + 1, none⟩ = some (.int .i64 ((rd_T107 x108001_1 x33_1).f1)) := hcc21 1 _ rfl
              have hf21_0 : wr.frozen? ⟨go21, (x33_1 : Int).toNat * 2, none⟩ = false := hfr21 0
              have hf21_1 : wr.frozen? ⟨go21, (x33_1 : Int).toNat * 2 + 1, none⟩ = false := hfr21 1
              clear hcl21 hcc21 hfr21 hM21
              replace p21 := eq_true p21
              replace q21 := eq_true q21
              have HX28 := Aside0.mk (show Kd.R k107 107 wr w.heap.size (fun _ => True) (.slice (some ⟨go21, 0, none⟩) x108001_1.length co21) x108001_1 from (by (with_reducible repeat (first|apply Kd.R_alloc|apply Kd.R_drewN|apply Kd.R_drew));exact HO_108001.out))
              obtain ⟨ce28, hcl28, hM28, hcc28, hfr28⟩ := Kd.R_elem HX28.out z107 (x33_1 : Int) (of_decide_eq_true (by first|(with_reducible assumption)|assumption)) (by have h_ : (x33_1 : Int) < ((x108001_1.length : Int) : Int) := of_decide_eq_true (by first|(with_reducible assumption)|assumption);first|exact h_|(have e_ := (Kd.R_reads' HO_108001.out).1;omega)|simpa using h_)
              obtain rfl := k107_openM hM28
              have HP28 := Kd.R_seg HX28.out (x33_1 : Int) (of_decide_eq_true (by first|(with_reducible assumption)|assumption)) (by have h_ : (x33_1 : Int) < ((x108001_1.length : Int) : Int) := of_decide_eq_true (by first|(with_reducible assumption)|assumption);first|exact h_|(have e_ := (Kd.R_reads' HO_108001.out).1;omega)|simpa using h_) (seg := [.int .u64 t102, .int .i64 x33_1]) (j := 0) hcl28 hcc28 (show 2 ≤ 2 from by decide) (x' := (⟨t102, x33_1⟩ : S107)) (k107_mkM _ _ _ (⟨t102, x33_1⟩ : S107) ) (fun _ hk => hk)
              have hx28_0 := hcc28 0 _ rfl
              (try simp only [show (k107).sz = 2 from rfl, Nat.mul_one, Nat.add_zero] at hx28_0)
              have hf28_0 := hfr28 0
              (try simp only [show (k107).sz = 2 from rfl, Nat.mul_one, Nat.add_zero] at hf28_0)
              have hx28_1 := hcc28 1 _ rfl
              (try simp only [show (k107).sz = 2 from rfl, Nat.mul_one, Nat.add_zero] at hx28_1)
              have hf28_1 := hfr28 1
              (try simp only [show (k107).sz = 2 from rfl, Nat.mul_one, Nat.add_zero] at hf28_1)
              clear hcl28 hcc28 hfr28 hM28
              go_wp2_with (first|((with_reducible refine gate_store (t := 107) (p := 44) rfl ?_);refine store_event (t := 107) (p := 44) (v := ?vo_w29) (w1 := ((wr.setCell ⟨go21, (x33_1 : Int).toNat * 2, none⟩ (.int .u64 t102)).setCell ⟨go21, (x33_1 : Int).toNat * 2 + 1, none⟩ (.int .i64 x33_1))) ?hg ?ho ?hn ?hr ?_;(case ho => rfl);(case hg => rfl);(case hn => rfl);(case hr => first|(go_simp;done)|(go_simp;rfl));intro w29 hw;have hg : wr.grownBy w29 (some go21) := (by rw [hw];exact HP28.2);have hp_ : Kd.R k107 107 w29 w.heap.size (fun _ => True) (.slice (some ⟨go21, 0, none⟩) x108001_1.length co21) y112 := (by rw [hw, Ny112.out];exact HP28.1);clear HP28;have n0_ := Aside0.mk (Kd.R_over' (v := (.slice (some ⟨go21, 0, none⟩) x108001_1.length co21)) (by (with_reducible repeat (first|apply Kd.R_alloc|apply Kd.R_drewN|apply Kd.R_drew));exact HO_7.out) (Kd.R_typed HO_108001.out) (by decide) hg);have n1_ := Aside0.mk (Kd.R_over' (v := (.slice (some ⟨go21, 0, none⟩) x108001_1.length co21)) (by (with_reducible repeat (first|apply Kd.R_alloc|apply Kd.R_drewN|apply Kd.R_drew));exact HO_8.out) (Kd.R_typed HO_108001.out) (by decide) hg);have n2_ := Aside0.mk (Kd.R_over' (v := (.slice (some ⟨go21, 0, none⟩) x108001_1.length co21)) (by (with_reducible repeat (first|apply Kd.R_alloc|apply Kd.R_drewN|apply Kd.R_drew));exact HO_9.out) (Kd.R_typed HO_108001.out) (by decide) hg);have n3_ := Aside0.mk (hp_);have n4_ := Aside0.mk (blk_grown (g := gb101) (o := .cells #[.int .u64 0, .slice none 0 0] 53 (0, 0)) (by (with_reducible repeat (first|refine blk_drewN ?_ _|refine blk_drew ?_|refine blk_alloc ?_ _));exact BK101.out) hg (Kd.R_ne HO_108001.out BK101.out (by decide)));have n5_ := Aside0.mk (blk_grown (g := gb107) (o := .cells #[.int .u64 t102, .slice (some ⟨go21, 0, none⟩) x108001_1.length co21] 53 (0, 0)) (by (with_reducible repeat (first|refine blk_drewN ?_ _|refine blk_drew ?_|refine blk_alloc ?_ _));exact BK107.out) hg (Kd.R_ne HO_108001.out BK107.out (by decide)));have n6_ := Aside0.mk ((by rw [hw];exact below_set (below_set (HB.out) GB21.out) GB21.out : Below w.heap.size w w29));clear HO_7;clear HO_8;clear HO_9;clear HO_108001;clear BK101;clear BK107;clear HB;have HO_7 := n0_;have HO_8 := n1_;have HO_9 := n2_;have HO_108001 := n3_;have BK101 := n4_;have BK107 := n5_;have HB := n6_;clear n0_ n1_ n2_ n3_ n4_ n5_ n6_;clear hg hw hp_;have p23 : 0 ≤ (x33_1 : Int) := of_decide_eq_true (by first|(with_reducible assumption)|assumption);have q23 : (x33_1 : Int) < ((x7_1.length : Int) : Int) := of_decide_eq_true (by first|(with_reducible assumption)|assumption);obtain ⟨go23, co23, eo23, gb23, gl23, cl23, HG23⟩ := Kd.R_form HO_7.out (by omega);(first|cases eo23|(injection eo23 with ea_ en_ ec_;(first|subst ea_|(injection ea_ with ea_;subst ea_));subst ec_;clear en_));have GB23 := Aside0.mk gb23;have GG23 := Aside0.mk HG23;clear gb23 gl23 HG23;obtain ⟨hx23_0, hf23_0⟩ := Kd.R_celln 0 HO_7.out (x33_1 : Int) p23 q23;replace p23 := eq_true p23;replace q23 := eq_true q23;obtain ⟨hy30_, hz30_⟩ := Kd.R_celln 0 HO_7.out (x33_1 : Int) (of_decide_eq_true (by first|(with_reducible assumption)|assumption)) (of_decide_eq_true (by first|(with_reducible assumption)|assumption));have HP30 := Kd.R_putg HO_7.out (x33_1 : Int) (IntKind.u64.wrap ((rd l0 x33_1) * (IntKind.u64.wrap ((l0.length : Int))))))|((with_reducible refine gate_store (t := 22) (p := 52) rfl ?_);refine store_event (t := 22) (p := 52) (v := ?vo_w31) (w1 := (w29.setCell ⟨go23, (x33_1 : Int).toNat, none⟩ (.int .u64 (IntKind.u64.wrap ((rd l0 x33_1) * (IntKind.u64.wrap ((l0.length : Int)))))))) ?hg ?ho ?hn ?hr ?_;(case ho => rfl);(case hg => rfl);(case hn => rfl);(case hr => first|(go_simp;done)|(go_simp;rfl));intro w31 hw;have hg : w29.grownBy w31 (some go23) := (by rw [hw];exact HP30.2);have hp_ : Kd.R (Kd.int .u64) 22 w31 w.heap.size (fun _ => True) (.slice (some ⟨go23, 0, none⟩) x7_1.length co23) y113 := (by rw [hw, Ny113.out];exact HP30.1);clear HP30;have n0_ := Aside0.mk (hp_);have n1_ := Aside0.mk (Kd.R_over' (v := (.slice (some ⟨go23, 0, none⟩) x7_1.length co23)) (by (with_reducible repeat (first|apply Kd.R_alloc|apply Kd.R_drewN|apply Kd.R_drew));exact HO_8.out) (Kd.R_typed HO_7.out) (by decide) hg);have n2_ := Aside0.mk (Kd.R_over' (v := (.slice (some ⟨go23, 0, none⟩) x7_1.length co23)) (by (with_reducible repeat (first|apply Kd.R_alloc|apply Kd.R_drewN|apply Kd.R_drew));exact HO_9.out) (Kd.R_typed HO_7.out) (by decide) hg);have n3_ := Aside0.mk (Kd.R_over' (v := (.slice (some ⟨go23, 0, none⟩) x7_1.length co23)) (by (with_reducible repeat (first|apply Kd.R_alloc|apply Kd.R_drewN|apply Kd.R_drew));exact HO_108001.out) (Kd.R_typed HO_7.out) (by decide) hg);have n4_ := Aside0.mk (blk_grown (g := gb101) (o := .cells #[.int .u64 0, .slice none 0 0] 53 (0, 0)) (by (with_reducible repeat (first|refine blk_drewN ?_ _|refine blk_drew ?_|refine blk_alloc ?_ _));exact BK101.out) hg (Kd.R_ne HO_7.out BK101.out (by decide)));have n5_ := Aside0.mk (blk_grown (g := gb107) (o := .cells #[.int .u64 t102, .slice (some ⟨go21, 0, none⟩) x108001_1.length co21] 53 (0, 0)) (by (with_reducible repeat (first|refine blk_drewN ?_ _|refine blk_drew ?_|refine blk_alloc ?_ _));exact BK107.out) hg (Kd.R_ne HO_7.out BK107.out (by decide)));have n6_ := Aside0.mk ((by rw [hw];exact below_set (HB.out) GB23.out : Below w.heap.size w w31));clear HO_7;clear HO_8;clear HO_9;clear HO_108001;clear BK101;clear BK107;clear HB;have HO_7 := n0_;have HO_8 := n1_;have HO_9 := n2_;have HO_108001 := n3_;have BK101 := n4_;have BK107 := n5_;have HB := n6_;clear n0_ n1_ n2_ n3_ n4_ n5_ n6_;clear hg hw hp_;have p114 : 0 ≤ (x33_1 : Int) := of_decide_eq_true (by first|(with_reducible assumption)|assumption);have q114 : x33_1 < (y113.length : Int) := (by have h_ : (x33_1 : Int) < ((x7_1.length : Int) : Int) := of_decide_eq_true (by first|(with_reducible assumption)|assumption);first|(have e_ := (Kd.R_reads' HO_7.out).1;omega)|simpa only [Ny113.out, List.length_set] using h_);have ql114 : ((x33_1 : Int) < ((x7_1.length : Int) : Int)) = True := eq_true (of_decide_eq_true (by first|(with_reducible assumption)|assumption));obtain ⟨ad114, e114, hx114_0⟩ := Kd.at_int (Kd.R_reads' HO_7.out).2.2 x33_1 p114 q114;obtain rfl : (⟨go23, 0, none⟩ : Addr) = ad114 := (by injection e114);(first|simp only [add_plain] at hx114_0|simp only [add_at] at hx114_0|simp only [Addr.add, Nat.zero_add] at hx114_0|skip);replace p114 := eq_true p114;replace q114 := eq_true q114)|((with_reducible refine gate_builtin (b := .append) (xs := #[.tmp 59, .tmp 61]) rfl ?_);(try (refine gate_guard (by rfl) ?_;dsimp only));at_builtin;refine Kd.R_append (Kd.int .i64) (w0 := w) w.heap.size rfl (.tmp 59) (.tmp 61) 29 3 (.int .i64 0) 8 rfl Try.underlying29 info3 rfl (by decide) (by omega) u8 x8_1 x33_1 [.int .i64 x33_1] (fun k_ => some k_ ≠ (u9 : Value).ownBlock) (fun _ => False) rfl rfl ?aP (fun _ hk => hk.elim) ?aF ?aO ?aB ?aS ?aL ?_;(case aP => exact rfl);(case aB => exact (by repeat (first|(with_reducible first|exact HB.out|apply below_alloc|apply pw_below_drewN|apply below_drew1|refine below_set ?_ GE101.out|refine below_set ?_ GE107.out)|exact HB.out)));(case aF => exact (fun k_ hk => Kd.fresh' (Kd.R_lt (by (with_reducible repeat (first|apply Kd.R_alloc|apply Kd.R_drewN|apply Kd.R_drew));exact HO_9.out)) k_ hk));(case aO => exact (by (with_reducible repeat (first|apply Kd.R_alloc|apply Kd.R_drewN|apply Kd.R_drew));exact HO_8.out));(case aS => exact (below_size (by repeat (first|(with_reducible first|exact HB.out|apply below_alloc|apply pw_below_drewN|apply below_drew1|refine below_set ?_ GE101.out|refine below_set ?_ GE107.out)|exact HB.out))));(case aL => have := LMc25.out;omega);intro v116 w32 ho hb hg hat;rw [← Ny115.out] at ho;have n0_ := Aside0.mk (Kd.R_over' (by (with_reducible repeat (first|apply Kd.R_alloc|apply Kd.R_drewN|apply Kd.R_drew));exact HO_7.out) (Kd.R_typed (by (with_reducible repeat (first|apply Kd.R_alloc|apply Kd.R_drewN|apply Kd.R_drew));exact HO_8.out)) (by decide) hg);have n1_ := Aside0.mk (Kd.R_after (ok := (fun _ => True)) (by (with_reducible repeat (first|apply Kd.R_alloc|apply Kd.R_drewN|apply Kd.R_drew));exact Kd.R_mono HO_9.out (fun _ hk => ⟨trivial, hk⟩)) hg hat);have n2_ := Aside0.mk (Kd.R_over' (by (with_reducible repeat (first|apply Kd.R_alloc|apply Kd.R_drewN|apply Kd.R_drew));exact HO_108001.out) (Kd.R_typed (by (with_reducible repeat (first|apply Kd.R_alloc|apply Kd.R_drewN|apply Kd.R_drew));exact HO_8.out)) (by decide) hg);have n3_ := Aside0.mk (blk_grown (g := gb101) (o := .cells #[.int .u64 0, .slice none 0 0] 53 (0, 0)) (by (with_reducible repeat (first|refine blk_drewN ?_ _|refine blk_drew ?_|refine blk_alloc ?_ _));exact BK101.out) hg (Kd.R_ne HO_8.out BK101.out (by decide)));have n4_ := Aside0.mk (blk_grown (g := gb107) (o := .cells #[.int .u64 t102, .slice (some ⟨go21, 0, none⟩) x108001_1.length co21] 53 (0, 0)) (by (with_reducible repeat (first|refine blk_drewN ?_ _|refine blk_drew ?_|refine blk_alloc ?_ _));exact BK107.out) hg (Kd.R_ne HO_8.out BK107.out (by decide)));have n5_ := Aside0.mk (hb);have n6_ := Aside0.mk (ho);clear HO_7;clear HO_9;clear HO_108001;clear BK101;clear BK107;clear HB;clear HO_8;have HO_7 := n0_;have HO_9 := n1_;have HO_108001 := n2_;have BK101 := n3_;have BK107 := n4_;have HB := n5_;have HO117 := n6_;clear n0_ n1_ n2_ n3_ n4_ n5_ n6_;clear ho hb hg hat))
              go_roundg k1
              case measure => have := HK1.out;omega
              case rel => exact ⟨(y113), (y115), (x9_1), (wrap64 (x33_1 + 1)), (y112), (.slice (some ⟨go21, 0, none⟩) x108001_1.length co21), (by first|rfl|(simp;done)|(simp [*];done)), H', ⟨by have := HK1.out;omega⟩, ⟨by (with_reducible repeat (first|apply Kd.R_alloc|apply Kd.R_drewN|apply Kd.R_drew));exact HO_7.out⟩, ⟨by (with_reducible repeat (first|apply Kd.R_alloc|apply Kd.R_drewN|apply Kd.R_drew));exact HO117.out⟩, ⟨by (with_reducible repeat (first|apply Kd.R_alloc|apply Kd.R_drewN|apply Kd.R_drew));exact Kd.R_mono HO_9.out (fun _ hk => hk.2)⟩, ⟨by (with_reducible repeat (first|apply Kd.R_alloc|apply Kd.R_drewN|apply Kd.R_drew));exact HO_108001.out⟩, ⟨by (with_reducible repeat (first|refine blk_drewN ?_ _|refine blk_drew ?_|refine blk_alloc ?_ _));exact BK101.out⟩, ⟨by (with_reducible repeat (first|refine blk_drewN ?_ _|refine blk_drew ?_|refine blk_alloc ?_ _));exact BK107.out⟩, ⟨by repeat (first|(with_reducible first|exact HB.out|apply below_alloc|apply pw_below_drewN|apply below_drew1|refine below_set ?_ GE101.out|refine below_set ?_ GE107.out)|exact HB.out)⟩⟩
             ·rw [if_neg c25] at H
              exact absurd H (by simp)
            ·rw [if_neg c24] at H
             have c24b0 : decide ((rd y113 x33_1) < t102) = false := decide_eq_false c24
             clear c24
             by_cases c33 : x9_1.length < 17592186044416
             ·rw [if_pos c33] at H
              have LMc33 := Aside0.mk c33
              clear c33
              obtain ⟨y118, hy118⟩ : ∃ y_ : List Int, y_ = (x9_1 ++ [x33_1]) := ⟨_, rfl⟩
              replace H : (alias_Build.l0 k1 l0 t102 y113 x8_1 y118 l0 (l0.length : Int) (wrap64 (x33_1 + 1)) t102 y112) = some (r1, r2, r3) := by first|(rw [hy118];with_reducible exact H)|(have H2_ := (Option.bind_some _ _).symm.trans H;rw [hy118];with_reducible exact H2_)|(have H2_ := (Option.bind_some _ _).symm.trans H;with_reducible exact H2_)|with_reducible exact H|(rw [hy118];exact H)|exact H
              have Ny118 := Aside0.mk hy118
              clear hy118
              have H' := Aside0.mk H
              clear H
              have p111 : 0 ≤ (x33_1 : Int) := of_decide_eq_true (by first|(with_reducible assumption)|assumption)
              have q111 : x33_1 < (l0.length : Int) := of_decide_eq_true (by first|(with_reducible assumption)|assumption)
              obtain ⟨ad111, e111, hx111_0⟩ := Kd.at_int HR0.out x33_1 p111 q111
              cases e111
              replace hx111_0 := (HB.out.cell (World.block_lt_of_cell? w _ hx111_0)).trans hx111_0
              replace p111 := eq_true p111
              replace q111 := eq_true q111
              have hnb34 := NB107_101.out
              have hnc34 := NB101_107.out
              have hcz35_0 : wr.cell? ⟨gb107, 0, none⟩ = some (.int .u64 t102) := (blk_cell BK107.out 0).trans rfl
              have hcz35_1 : wr.cell? ⟨gb107, 1, none⟩ = some (u108001) := (blk_cell BK107.out 1).trans rfl
              have hfz35_0 := blk_frozen BK107.out 0
              have hfz35_1 := blk_frozen BK107.out 1
              have p21 : 0 ≤ (x33_1 : Int) := of_decide_eq_true (by first|(with_reducible assumption)|assumption)
              have q21 : (x33_1 : Int) < ((x108001_1.length : Int) : Int) := of_decide_eq_true (by first|(with_reducible assumption)|assumption)
              obtain ⟨go21, co21, eo21, gb21, gl21, cl21, HG21⟩ := Kd.R_form HO_108001.out (by omega)
              (first|cases eo21|(injection eo21 with ea_ en_ ec_;(first|subst ea_|(injection ea_ with ea_;subst ea_));subst ec_;clear en_))
              have GB21 := Aside0.mk gb21
              have GG21 := Aside0.mk HG21
              clear gb21 gl21 HG21
              obtain ⟨ce21, hcl21, hM21, hcc21, hfr21⟩ := Kd.R_elem HO_108001.out z107 (x33_1 : Int) p21 q21
              obtain rfl := k107_openM hM21
              have hx21_0 : wr.cell? ⟨go21, (x33_1 : Int).toNat * 2, none⟩ = some (.int .u64 ((rd_T107 x108001_1 x33_1).f0)) := hcc21 0 _ rfl
              have hx21_1 : wr.cell? ⟨go21, (x33_1 : Int).toNat * 2 + 1, none⟩ = some (.int .i64 ((rd_T107 x108001_1 x33_1).f1)) := hcc21 1 _ rfl
              have hf21_0 : wr.frozen? ⟨go21, (x33_1 : Int).toNat * 2, none⟩ = false := hfr21 0
              have hf21_1 : wr.frozen? ⟨go21, (x33_1 : Int).toNat * 2 + 1, none⟩ = false := hfr21 1
              clear hcl21 hcc21 hfr21 hM21
              replace p21 := eq_true p21
              replace q21 := eq_true q21
              have HX36 := Aside0.mk (show Kd.R k107 107 wr w.heap.size (fun _ => True) (.slice (some ⟨go21, 0, none⟩) x108001_1.length co21) x108001_1 from (by (with_reducible repeat (first|apply Kd.R_alloc|apply Kd.R_drewN|apply Kd.R_drew));exact HO_108001.out))
              obtain ⟨ce36, hcl36, hM36, hcc36, hfr36⟩ := Kd.R_elem HX36.out z107 (x33_1 : Int) (of_decide_eq_true (by first|(with_reducible assumption)|assumption)) (by have h_ : (x33_1 : Int) < ((x108001_1.length : Int) : Int) := of_decide_eq_true (by first|(with_reducible assumption)|assumption);first|exact h_|(have e_ := (Kd.R_reads' HO_108001.out).1;omega)|simpa using h_)
              obtain rfl := k107_openM hM36
              have HP36 := Kd.R_seg HX36.out (x33_1 : Int) (of_decide_eq_true (by first|(with_reducible assumption)|assumption)) (by have h_ : (x33_1 : Int) < ((x108001_1.length : Int) : Int) := of_decide_eq_true (by first|(with_reducible assumption)|assumption);first|exact h_|(have e_ := (Kd.R_reads' HO_108001.out).1;omega)|simpa using h_) (seg := [.int .u64 t102, .int .i64 x33_1]) (j := 0) hcl36 hcc36 (show 2 ≤ 2 from by decide) (x' := (⟨t102, x33_1⟩ : S107)) (k107_mkM _ _ _ (⟨t102, x33_1⟩ : S107) ) (fun _ hk => hk)
              have hx36_0 := hcc36 0 _ rfl
              (try simp only [show (k107).sz = 2 from rfl, Nat.mul_one, Nat.add_zero] at hx36_0)
              have hf36_0 := hfr36 0
              (try simp only [show (k107).sz = 2 from rfl, Nat.mul_one, Nat.add_zero] at hf36_0)
              have hx36_1 := hcc36 1 _ rfl
              (try simp only [show (k107).sz = 2 from rfl, Nat.mul_one, Nat.add_zero] at hx36_1)
              have hf36_1 := hfr36 1
              (try simp only [show (k107).sz = 2 from rfl, Nat.mul_one, Nat.add_zero] at hf36_1)
              clear hcl36 hcc36 hfr36 hM36
              go_wp2_with (first|((with_reducible refine gate_store (t := 107) (p := 44) rfl ?_);refine store_event (t := 107) (p := 44) (v := ?vo_w37) (w1 := ((wr.setCell ⟨go21, (x33_1 : Int).toNat * 2, none⟩ (.int .u64 t102)).setCell ⟨go21, (x33_1 : Int).toNat * 2 + 1, none⟩ (.int .i64 x33_1))) ?hg ?ho ?hn ?hr ?_;(case ho => rfl);(case hg => rfl);(case hn => rfl);(case hr => first|(go_simp;done)|(go_simp;rfl));intro w37 hw;have hg : wr.grownBy w37 (some go21) := (by rw [hw];exact HP36.2);have hp_ : Kd.R k107 107 w37 w.heap.size (fun _ => True) (.slice (some ⟨go21, 0, none⟩) x108001_1.length co21) y112 := (by rw [hw, Ny112.out];exact HP36.1);clear HP36;have n0_ := Aside0.mk (Kd.R_over' (v := (.slice (some ⟨go21, 0, none⟩) x108001_1.length co21)) (by (with_reducible repeat (first|apply Kd.R_alloc|apply Kd.R_drewN|apply Kd.R_drew));exact HO_7.out) (Kd.R_typed HO_108001.out) (by decide) hg);have n1_ := Aside0.mk (Kd.R_over' (v := (.slice (some ⟨go21, 0, none⟩) x108001_1.length co21)) (by (with_reducible repeat (first|apply Kd.R_alloc|apply Kd.R_drewN|apply Kd.R_drew));exact HO_8.out) (Kd.R_typed HO_108001.out) (by decide) hg);have n2_ := Aside0.mk (Kd.R_over' (v := (.slice (some ⟨go21, 0, none⟩) x108001_1.length co21)) (by (with_reducible repeat (first|apply Kd.R_alloc|apply Kd.R_drewN|apply Kd.R_drew));exact HO_9.out) (Kd.R_typed HO_108001.out) (by decide) hg);have n3_ := Aside0.mk (hp_);have n4_ := Aside0.mk (blk_grown (g := gb101) (o := .cells #[.int .u64 0, .slice none 0 0] 53 (0, 0)) (by (with_reducible repeat (first|refine blk_drewN ?_ _|refine blk_drew ?_|refine blk_alloc ?_ _));exact BK101.out) hg (Kd.R_ne HO_108001.out BK101.out (by decide)));have n5_ := Aside0.mk (blk_grown (g := gb107) (o := .cells #[.int .u64 t102, .slice (some ⟨go21, 0, none⟩) x108001_1.length co21] 53 (0, 0)) (by (with_reducible repeat (first|refine blk_drewN ?_ _|refine blk_drew ?_|refine blk_alloc ?_ _));exact BK107.out) hg (Kd.R_ne HO_108001.out BK107.out (by decide)));have n6_ := Aside0.mk ((by rw [hw];exact below_set (below_set (HB.out) GB21.out) GB21.out : Below w.heap.size w w37));clear HO_7;clear HO_8;clear HO_9;clear HO_108001;clear BK101;clear BK107;clear HB;have HO_7 := n0_;have HO_8 := n1_;have HO_9 := n2_;have HO_108001 := n3_;have BK101 := n4_;have BK107 := n5_;have HB := n6_;clear n0_ n1_ n2_ n3_ n4_ n5_ n6_;clear hg hw hp_;have p23 : 0 ≤ (x33_1 : Int) := of_decide_eq_true (by first|(with_reducible assumption)|assumption);have q23 : (x33_1 : Int) < ((x7_1.length : Int) : Int) := of_decide_eq_true (by first|(with_reducible assumption)|assumption);obtain ⟨go23, co23, eo23, gb23, gl23, cl23, HG23⟩ := Kd.R_form HO_7.out (by omega);(first|cases eo23|(injection eo23 with ea_ en_ ec_;(first|subst ea_|(injection ea_ with ea_;subst ea_));subst ec_;clear en_));have GB23 := Aside0.mk gb23;have GG23 := Aside0.mk HG23;clear gb23 gl23 HG23;obtain ⟨hx23_0, hf23_0⟩ := Kd.R_celln 0 HO_7.out (x33_1 : Int) p23 q23;replace p23 := eq_true p23;replace q23 := eq_true q23;obtain ⟨hy38_, hz38_⟩ := Kd.R_celln 0 HO_7.out (x33_1 : Int) (of_decide_eq_true (by first|(with_reducible assumption)|assumption)) (of_decide_eq_true (by first|(with_reducible assumption)|assumption));have HP38 := Kd.R_putg HO_7.out (x33_1 : Int) (IntKind.u64.wrap ((rd l0 x33_1) * (IntKind.u64.wrap ((l0.length : Int))))))|((with_reducible refine gate_store (t := 22) (p := 52) rfl ?_);refine store_event (t := 22) (p := 52) (v := ?vo_w39) (w1 := (w37.setCell ⟨go23, (x33_1 : Int).toNat, none⟩ (.int .u64 (IntKind.u64.wrap ((rd l0 x33_1) * (IntKind.u64.wrap ((l0.length : Int)))))))) ?hg ?ho ?hn ?hr ?_;(case ho => rfl);(case hg => rfl);(case hn => rfl);(case hr => first|(go_simp;done)|(go_simp;rfl));intro w39 hw;have hg : w37.grownBy w39 (some go23) := (by rw [hw];exact HP38.2);have hp_ : Kd.R (Kd.int .u64) 22 w39 w.heap.size (fun _ => True) (.slice (some ⟨go23, 0, none⟩) x7_1.length co23) y113 := (by rw [hw, Ny113.out];exact HP38.1);clear HP38;have n0_ := Aside0.mk (hp_);have n1_ := Aside0.mk (Kd.R_over' (v := (.slice (some ⟨go23, 0, none⟩) x7_1.length co23)) (by (with_reducible repeat (first|apply Kd.R_alloc|apply Kd.R_drewN|apply Kd.R_drew));exact HO_8.out) (Kd.R_typed HO_7.out) (by decide) hg);have n2_ := Aside0.mk (Kd.R_over' (v := (.slice (some ⟨go23, 0, none⟩) x7_1.length co23)) (by (with_reducible repeat (first|apply Kd.R_alloc|apply Kd.R_drewN|apply Kd.R_drew));exact HO_9.out) (Kd.R_typed HO_7.out) (by decide) hg);have n3_ := Aside0.mk (Kd.R_over' (v := (.slice (some ⟨go23, 0, none⟩) x7_1.length co23)) (by (with_reducible repeat (first|apply Kd.R_alloc|apply Kd.R_drewN|apply Kd.R_drew));exact HO_108001.out) (Kd.R_typed HO_7.out) (by decide) hg);have n4_ := Aside0.mk (blk_grown (g := gb101) (o := .cells #[.int .u64 0, .slice none 0 0] 53 (0, 0)) (by (with_reducible repeat (first|refine blk_drewN ?_ _|refine blk_drew ?_|refine blk_alloc ?_ _));exact BK101.out) hg (Kd.R_ne HO_7.out BK101.out (by decide)));have n5_ := Aside0.mk (blk_grown (g := gb107) (o := .cells #[.int .u64 t102, .slice (some ⟨go21, 0, none⟩) x108001_1.length co21] 53 (0, 0)) (by (with_reducible repeat (first|refine blk_drewN ?_ _|refine blk_drew ?_|refine blk_alloc ?_ _));exact BK107.out) hg (Kd.R_ne HO_7.out BK107.out (by decide)));have n6_ := Aside0.mk ((by rw [hw];exact below_set (HB.out) GB23.out : Below w.heap.size w w39));clear HO_7;clear HO_8;clear HO_9;clear HO_108001;clear BK101;clear BK107;clear HB;have HO_7 := n0_;have HO_8 := n1_;have HO_9 := n2_;have HO_108001 := n3_;have BK101 := n4_;have BK107 := n5_;have HB := n6_;clear n0_ n1_ n2_ n3_ n4_ n5_ n6_;clear hg hw hp_;have p114 : 0 ≤ (x33_1 : Int) := of_decide_eq_true (by first|(with_reducible assumption)|assumption);have q114 : x33_1 < (y113.length : Int) := (by have h_ : (x33_1 : Int) < ((x7_1.length : Int) : Int) := of_decide_eq_true (by first|(with_reducible assumption)|assumption);first|(have e_ := (Kd.R_reads' HO_7.out).1;omega)|simpa only [Ny113.out, List.length_set] using h_);have ql114 : ((x33_1 : Int) < ((x7_1.length : Int) : Int)) = True := eq_true (of_decide_eq_true (by first|(with_reducible assumption)|assumption));obtain ⟨ad114, e114, hx114_0⟩ := Kd.at_int (Kd.R_reads' HO_7.out).2.2 x33_1 p114 q114;obtain rfl : (⟨go23, 0, none⟩ : Addr) = ad114 := (by injection e114);(first|simp only [add_plain] at hx114_0|simp only [add_at] at hx114_0|simp only [Addr.add, Nat.zero_add] at hx114_0|skip);replace p114 := eq_true p114;replace q114 := eq_true q114)|((with_reducible refine gate_builtin (b := .append) (xs := #[.tmp 63, .tmp 65]) rfl ?_);(try (refine gate_guard (by rfl) ?_;dsimp only));at_builtin;refine Kd.R_append (Kd.int .i64) (w0 := w) w.heap.size rfl (.tmp 63) (.tmp 65) 29 3 (.int .i64 0) 8 rfl Try.underlying29 info3 rfl (by decide) (by omega) u9 x9_1 x33_1 [.int .i64 x33_1] (fun k_ => some k_ ≠ (u8 : Value).ownBlock) (fun _ => False) rfl rfl ?aP (fun _ hk => hk.elim) ?aF ?aO ?aB ?aS ?aL ?_;(case aP => exact rfl);(case aB => exact (by repeat (first|(with_reducible first|exact HB.out|apply below_alloc|apply pw_below_drewN|apply below_drew1|refine below_set ?_ GE101.out|refine below_set ?_ GE107.out)|exact HB.out)));(case aF => exact (fun k_ hk => Kd.fresh' (Kd.R_lt (by (with_reducible repeat (first|apply Kd.R_alloc|apply Kd.R_drewN|apply Kd.R_drew));exact HO_8.out)) k_ hk));(case aO => exact (by (with_reducible repeat (first|apply Kd.R_alloc|apply Kd.R_drewN|apply Kd.R_drew));exact HO_9.out));(case aS => exact (below_size (by repeat (first|(with_reducible first|exact HB.out|apply below_alloc|apply pw_below_drewN|apply below_drew1|refine below_set ?_ GE101.out|refine below_set ?_ GE107.out)|exact HB.out))));(case aL => have := LMc33.out;omega);intro v119 w40 ho hb hg hat;rw [← Ny118.out] at ho;have n0_ := Aside0.mk (Kd.R_over' (by (with_reducible repeat (first|apply Kd.R_alloc|apply Kd.R_drewN|apply Kd.R_drew));exact HO_7.out) (Kd.R_typed (by (with_reducible repeat (first|apply Kd.R_alloc|apply Kd.R_drewN|apply Kd.R_drew));exact HO_9.out)) (by decide) hg);have n1_ := Aside0.mk (Kd.R_after (ok := (fun _ => True)) (by (with_reducible repeat (first|apply Kd.R_alloc|apply Kd.R_drewN|apply Kd.R_drew));exact Kd.R_mono HO_8.out (fun _ hk => ⟨trivial, hk⟩)) hg hat);have n2_ := Aside0.mk (Kd.R_over' (by (with_reducible repeat (first|apply Kd.R_alloc|apply Kd.R_drewN|apply Kd.R_drew));exact HO_108001.out) (Kd.R_typed (by (with_reducible repeat (first|apply Kd.R_alloc|apply Kd.R_drewN|apply Kd.R_drew));exact HO_9.out)) (by decide) hg);have n3_ := Aside0.mk (blk_grown (g := gb101) (o := .cells #[.int .u64 0, .slice none 0 0] 53 (0, 0)) (by (with_reducible repeat (first|refine blk_drewN ?_ _|refine blk_drew ?_|refine blk_alloc ?_ _));exact BK101.out) hg (Kd.R_ne HO_9.out BK101.out (by decide)));have n4_ := Aside0.mk (blk_grown (g := gb107) (o := .cells #[.int .u64 t102, .slice (some ⟨go21, 0, none⟩) x108001_1.length co21] 53 (0, 0)) (by (with_reducible repeat (first|refine blk_drewN ?_ _|refine blk_drew ?_|refine blk_alloc ?_ _));exact BK107.out) hg (Kd.R_ne HO_9.out BK107.out (by decide)));have n5_ := Aside0.mk (hb);have n6_ := Aside0.mk (ho);clear HO_7;clear HO_8;clear HO_108001;clear BK101;clear BK107;clear HB;clear HO_9;have HO_7 := n0_;have HO_8 := n1_;have HO_108001 := n2_;have BK101 := n3_;have BK107 := n4_;have HB := n5_;have HO120 := n6_;clear n0_ n1_ n2_ n3_ n4_ n5_ n6_;clear ho hb hg hat))
              go_roundg k1
              case measure => have := HK1.out;omega
              case rel => exact ⟨(y113), (x8_1), (y118), (wrap64 (x33_1 + 1)), (y112), (.slice (some ⟨go21, 0, none⟩) x108001_1.length co21), (by first|rfl|(simp;done)|(simp [*];done)), H', ⟨by have := HK1.out;omega⟩, ⟨by (with_reducible repeat (first|apply Kd.R_alloc|apply Kd.R_drewN|apply Kd.R_drew));exact HO_7.out⟩, ⟨by (with_reducible repeat (first|apply Kd.R_alloc|apply Kd.R_drewN|apply Kd.R_drew));exact Kd.R_mono HO_8.out (fun _ hk => hk.2)⟩, ⟨by (with_reducible repeat (first|apply Kd.R_alloc|apply Kd.R_drewN|apply Kd.R_drew));exact HO120.out⟩, ⟨by (with_reducible repeat (first|apply Kd.R_alloc|apply Kd.R_drewN|apply Kd.R_drew));exact HO_108001.out⟩, ⟨by (with_reducible repeat (first|refine blk_drewN ?_ _|refine blk_drew ?_|refine blk_alloc ?_ _));exact BK101.out⟩, ⟨by (with_reducible repeat (first|refine blk_drewN ?_ _|refine blk_drew ?_|refine blk_alloc ?_ _));exact BK107.out⟩, ⟨by repeat (first|(with_reducible first|exact HB.out|apply below_alloc|apply pw_below_drewN|apply below_drew1|refine below_set ?_ GE101.out|refine below_set ?_ GE107.out)|exact HB.out)⟩⟩
             ·rw [if_neg c33] at H
              exact absurd H (by simp)
           ·rw [if_neg c22] at H
            exact absurd H (by simp)
          ·rw [if_neg c20] at H
           exact absurd H (by simp)
         ·rw [if_neg c19] at H
          exact absurd H (by simp)
        ·rw [if_neg c18] at H
         exact absurd H (by simp)
       ·rw [if_neg c17] at H
        have c17b0 : decide (x33_1 < (l0.length : Int)) = false := decide_eq_false c17
        clear c17
        have H' := Aside0.mk H
        clear H
        go_wp2
        go_loopg [8, 9] k1 (fun kq v8 v9 w' => ∃ (x7_2 : List Int) (x8_2 : List Int) (x9_2 : List Int) (x108001_2 : List (S107)) (u108001 : Value), Aside0 (alias_Build.l1 kq t102 x7_2 x8_2 x9_2 t102 x108001_2 = some (r1, r2, r3)) ∧ Aside0 (kq ≤ k1) ∧ Aside0 (Kd.R (Kd.int .u64) 22 w' w.heap.size (fun _ => True) v109 x7_2) ∧ Aside0 (Kd.R (Kd.int .i64) 3 w' w.heap.size (fun k_ => some k_ ≠ (v9 : Value).ownBlock) v8 x8_2) ∧ Aside0 (Kd.R (Kd.int .i64) 3 w' w.heap.size (fun k_ => some k_ ≠ (v8 : Value).ownBlock) v9 x9_2) ∧ Aside0 (Kd.R k107 107 w' w.heap.size (fun _ => True) u108001 x108001_2) ∧ Aside0 (w'.heap[gb101]? = some (.cells #[.int .u64 0, (.slice none 0 0)] 53 (0, 0))) ∧ Aside0 (w'.heap[gb107]? = some (.cells #[.int .u64 t102, u108001] 53 (0, 0))) ∧ Aside0 (Below w.heap.size w w'))
        case atStart => exact ⟨(x7_1), (x8_1), (x9_1), (x108001_1), (u108001), H', ⟨Nat.le_refl _⟩, ⟨by (with_reducible repeat (first|apply Kd.R_alloc|apply Kd.R_drewN|apply Kd.R_drew));exact HO_7.out⟩, ⟨by (with_reducible repeat (first|apply Kd.R_alloc|apply Kd.R_drewN|apply Kd.R_drew));exact HO_8.out⟩, ⟨by (with_reducible repeat (first|apply Kd.R_alloc|apply Kd.R_drewN|apply Kd.R_drew));exact HO_9.out⟩, ⟨by (with_reducible repeat (first|apply Kd.R_alloc|apply Kd.R_drewN|apply Kd.R_drew));exact HO_108001.out⟩, ⟨by (with_reducible repeat (first|refine blk_drewN ?_ _|refine blk_drew ?_|refine blk_alloc ?_ _));exact BK101.out⟩, ⟨by (with_reducible repeat (first|refine blk_drewN ?_ _|refine blk_drew ?_|refine blk_alloc ?_ _));exact BK107.out⟩, ⟨by repeat (first|(with_reducible first|exact HB.out|apply below_alloc|apply pw_below_drewN|apply below_drew1|refine below_set ?_ GE101.out|refine below_set ?_ GE107.out)|exact HB.out)⟩⟩
        case round =>
         clear H'
         try clear c1
         try clear p1
         try clear q1
         try clear hx1
         try clear c2
         try clear p2
         try clear q2
         try clear hx2
         try clear hf2
         try clear c3
         try clear c3b0
         try clear c3b1
         try clear hx3
         try clear hf3
         try clear c4
         try clear c4b0
         try clear c4b1
         try clear c5
         try clear c5b0
         try clear c5b1
         try clear c6
         try clear c6b0
         try clear c6b1
         try clear p6
         try clear p11
         try clear q11
         try clear hx11
         try clear c13
         try clear c17
         try clear c17b0
         try clear c18
         try clear c18b0
         try clear c19
         try clear c19b0
         try clear c20
         try clear c20b0
         try clear c21
         try clear p21
         try clear q21
         try clear hx21
         try clear hf21
         try clear c22
         try clear c22b0
         try clear p23
         try clear q23
         try clear hx23
         try clear hf23
         try clear c24
         try clear c24b0
         try clear c25
         try clear c26
         try clear c28
         try clear hx28
         try clear hf28
         try clear c33
         try clear c34
         try clear c36
         try clear hx36
         try clear hf36
         try clear c39
         try clear hcz14_0
         try clear hcz14_1
         try clear hcz27_0
         try clear hcz27_1
         try clear hcz35_0
         try clear hcz35_1
         try clear hfz14_0
         try clear hfz14_1
         try clear hfz27_0
         try clear hfz27_1
         try clear hfz35_0
         try clear hfz35_1
         try clear hx111_0
         try clear hx114_0
         try clear hx21_0
         try clear hx21_1
         try clear hx23_0
         try clear hx28_0
         try clear hx28_1
         try clear hx36_0
         try clear hx36_1
         try clear p111
         try clear p114
         try clear p2
         try clear p21
         try clear p23
         try clear q111
         try clear q114
         try clear q21
         try clear q23
         obtain ⟨x7_2, x8_2, x9_2, x108001_2, u108001, HA, HK2, HO_7, HO_8, HO_9, HO_108001, BK101, BK107, HB⟩ := hrel
         cases gk with
         | zero => exact absurd HA.out (by simp [alias_Build.l1])
         | succ k2 =>
          have H := HA.out
          clear HA
          simp only [alias_Build.l1] at H
          have HC41 := Aside0.mk H
          clear H
          go_upto_region 16 with (fail)
          go_cut [75] (fun v75 wc => ∃ (kq : Nat) (x75_40 : Bool), v75 = .bool x75_40 ∧ Aside0 (alias_Build.j2 kq t102 x7_2 x8_2 x9_2 x75_40 t102 x108001_2 = some (r1, r2, r3)) ∧ Aside0 (kq ≤ k2) ∧ Aside0 (Kd.R (Kd.int .u64) 22 wc w.heap.size (fun _ => True) v109 x7_2) ∧ Aside0 (Kd.R (Kd.int .i64) 3 wc w.heap.size (fun k_ => some k_ ≠ (u9 : Value).ownBlock) u8 x8_2) ∧ Aside0 (Kd.R (Kd.int .i64) 3 wc w.heap.size (fun k_ => some k_ ≠ (u8 : Value).ownBlock) u9 x9_2) ∧ Aside0 (Kd.R k107 107 wc w.heap.size (fun _ => True) u108001 x108001_2) ∧ Aside0 (wc.heap[gb101]? = some (.cells #[.int .u64 0, (.slice none 0 0)] 53 (0, 0))) ∧ Aside0 (wc.heap[gb107]? = some (.cells #[.int .u64 t102, u108001] 53 (0, 0))) ∧ Aside0 (Below w.heap.size w wc))
          case first =>
           have H := HC41.out
           clear HC41
           by_cases c42 : (x8_2.length : Int) > 0
           ·rw [if_pos c42] at H
            have c42b0 : decide (0 < (x8_2.length : Int)) = true := decide_eq_true c42
            have c42b1 : decide (0 < x8_2.length) = true := decide_eq_true (by omega)
            clear c42
            (first|rw [c42b0]|rw [c42b1]|(simp only [i64_w, i32_w];rw [c42b0])|skip)
            have H' := Aside0.mk H
            clear H
            obtain ⟨Ao43, co43, eo43⟩ := Kd.R_slice HO_8.out
            subst eo43
            obtain ⟨Ao44, co44, eo44⟩ := Kd.R_slice HO_9.out
            subst eo44
            go_wp2
            go_meet
            case rel => exact ⟨_, (decide ((x9_2.length : Int) > 0)), (by first|rfl|(simp;done)|(simp [*];done)), H', ⟨by have := HK1.out;have := HK2.out;first|omega|exact Nat.le_refl _⟩, ⟨by (with_reducible repeat (first|apply Kd.R_alloc|apply Kd.R_drewN|apply Kd.R_drew));exact HO_7.out⟩, ⟨by (with_reducible repeat (first|apply Kd.R_alloc|apply Kd.R_drewN|apply Kd.R_drew));exact HO_8.out⟩, ⟨by (with_reducible repeat (first|apply Kd.R_alloc|apply Kd.R_drewN|apply Kd.R_drew));exact HO_9.out⟩, ⟨by (with_reducible repeat (first|apply Kd.R_alloc|apply Kd.R_drewN|apply Kd.R_drew));exact HO_108001.out⟩, ⟨by (with_reducible repeat (first|refine blk_drewN ?_ _|refine blk_drew ?_|refine blk_alloc ?_ _));exact BK101.out⟩, ⟨by (with_reducible repeat (first|refine blk_drewN ?_ _|refine blk_drew ?_|refine blk_alloc ?_ _));exact BK107.out⟩, ⟨by repeat (first|(with_reducible first|exact HB.out|apply below_alloc|apply pw_below_drewN|apply below_drew1|refine below_set ?_ GE101.out|refine below_set ?_ GE107.out)|exact HB.out)⟩⟩
           ·rw [if_neg c42] at H
            have c42b0 : decide (0 < (x8_2.length : Int)) = false := decide_eq_false c42
            have c42b1 : decide (0 < x8_2.length) = false := decide_eq_false (by omega)
            clear c42
            (first|rw [c42b0]|rw [c42b1]|(simp only [i64_w, i32_w];rw [c42b0])|skip)
            have H' := Aside0.mk H
            clear H
            obtain ⟨Ao45, co45, eo45⟩ := Kd.R_slice HO_8.out
            subst eo45
            go_wp2
            go_meet
            case rel => exact ⟨_, (false), (by first|rfl|(simp;done)|(simp [*];done)), H', ⟨by have := HK1.out;have := HK2.out;first|omega|exact Nat.le_refl _⟩, ⟨by (with_reducible repeat (first|apply Kd.R_alloc|apply Kd.R_drewN|apply Kd.R_drew));exact HO_7.out⟩, ⟨by (with_reducible repeat (first|apply Kd.R_alloc|apply Kd.R_drewN|apply Kd.R_drew));exact HO_8.out⟩, ⟨by (with_reducible repeat (first|apply Kd.R_alloc|apply Kd.R_drewN|apply Kd.R_drew));exact HO_9.out⟩, ⟨by (with_reducible repeat (first|apply Kd.R_alloc|apply Kd.R_drewN|apply Kd.R_drew));exact HO_108001.out⟩, ⟨by (with_reducible repeat (first|refine blk_drewN ?_ _|refine blk_drew ?_|refine blk_alloc ?_ _));exact BK101.out⟩, ⟨by (with_reducible repeat (first|refine blk_drewN ?_ _|refine blk_drew ?_|refine blk_alloc ?_ _));exact BK107.out⟩, ⟨by repeat (first|(with_reducible first|exact HB.out|apply below_alloc|apply pw_below_drewN|apply below_drew1|refine below_set ?_ GE101.out|refine below_set ?_ GE107.out)|exact HB.out)⟩⟩
          case rest => as_aux_lemma =>
           clear HC41
           try clear c1
           try clear p1
           try clear q1
           try clear hx1
           try clear c2
           try clear p2
           try clear q2
           try clear hx2
           try clear hf2
           try clear c3
           try clear c3b0
           try clear c3b1
           try clear hx3
           try clear hf3
           try clear c4
           try clear c4b0
           try clear c4b1
           try clear c5
           try clear c5b0
           try clear c5b1
           try clear c6
           try clear c6b0
           try clear c6b1
           try clear p6
           try clear p11
           try clear q11
           try clear hx11
           try clear c13
           try clear c17
           try clear c17b0
           try clear c18
           try clear c18b0
           try clear c19
           try clear c19b0
           try clear c20
           try clear c20b0
           try clear c21
           try clear p21
           try clear q21
           try clear hx21
           try clear hf21
           try clear c22
           try clear c22b0
           try clear p23
           try clear q23
           try clear hx23
           try clear hf23
           try clear c24
           try clear c24b0
           try clear c25
           try clear c26
           try clear c28
           try clear hx28
           try clear hf28
           try clear c33
           try clear c34
           try clear c36
           try clear hx36
           try clear hf36
           try clear c39
           try clear c42
           try clear c42b0
           try clear c42b1
           try clear hcz14_0
           try clear hcz14_1
           try clear hcz27_0
           try clear hcz27_1
           try clear hcz35_0
           try clear hcz35_1
           try clear hfz14_0
           try clear hfz14_1
           try clear hfz27_0
           try clear hfz27_1
           try clear hfz35_0
           try clear hfz35_1
           try clear hx111_0
           try clear hx114_0
           try clear hx21_0
           try clear hx21_1
           try clear hx23_0
           try clear hx28_0
           try clear hx28_1
           try clear hx36_0
           try clear hx36_1
           try clear p1
           try clear p11
           try clear p111
           try clear p114
           try clear p2
           try clear p21
           try clear p23
           try clear p6
           try clear q1
           try clear q11
           try clear q111
           try clear q114
           try clear q2
           try clear q21
           try clear q23
           obtain ⟨kq, x75_40, rfl, HA, HJ40, HO_7, HO_8, HO_9, HO_108001, BK101, BK107, HB⟩ := hcut
           cases kq with
           | zero => exact absurd HA.out (by simp [alias_Build.j2])
           | succ kj40 =>
            have H := HA.out
            clear HA
            simp only [alias_Build.j2] at H
            by_cases c46 : x75_40 = true
            ·subst c46
             have H1 : (if 0 ≤ (wrap64 ((x8_2.length : Int) - 1)) then (if (wrap64 ((x8_2.length : Int) - 1)) < (x8_2.length : Int) then (if 0 ≤ (wrap64 ((x9_2.length : Int) - 1)) then (if (wrap64 ((x9_2.length : Int) - 1)) < (x9_2.length : Int) then (if (wrap64 ((x8_2.length : Int) - 1)) ≤ (x8_2.length : Int) then ((some (x8_2.take ((wrap64 ((x8_2.length : Int) - 1)) : Int).toNat : List Int)).bind fun y123 => (if 0 ≤ (rd x8_2 (wrap64 ((x8_2.length : Int) - 1))) then (if (rd x8_2 (wrap64 ((x8_2.length : Int) - 1))) < (x7_2.length : Int) then (if (rd x8_2 (wrap64 ((x8_2.length : Int) - 1))) < (x108001_2.length : Int) then ((some (x108001_2.set ((rd x8_2 (wrap64 ((x8_2.length : Int) - 1))) : Int).toNat (⟨rd x7_2 (rd x8_2 (wrap64 ((x8_2.length : Int) - 1))), rd x9_2 (wrap64 ((x9_2.length : Int) - 1))⟩ : S107) : List (S107))).bind fun y127 => (if 0 ≤ (rd x9_2 (wrap64 ((x9_2.length : Int) - 1))) then (if (rd x9_2 (wrap64 ((x9_2.length : Int) - 1))) < (x7_2.length : Int) then ((some (x7_2.set ((rd x9_2 (wrap64 ((x9_2.length : Int) - 1))) : Int).toNat (IntKind.u64.wrap ((rd x7_2 (rd x9_2 (wrap64 ((x9_2.length : Int) - 1)))) - (IntKind.u64.wrap (t102 - (rd x7_2 (rd x8_2 (wrap64 ((x8_2.length : Int) - 1)))))))) : List Int)).bind fun y130 => (if (IntKind.u64.wrap ((rd x7_2 (rd x9_2 (wrap64 ((x9_2.length : Int) - 1)))) - (IntKind.u64.wrap (t102 - (rd x7_2 (rd x8_2 (wrap64 ((x8_2.length : Int) - 1)))))))) < t102 then (if (wrap64 ((x9_2.length : Int) - 1)) ≤ (x9_2.length : Int) then (if y123.length < 17592186044416 then (alias_Build.l1 kj40 t102 y130 (y123 ++ [rd x9_2 (wrap64 ((x9_2.length : Int) - 1))]) (x9_2.take ((wrap64 ((x9_2.length : Int) - 1)) : Int).toNat) t102 y127) else (none)) else (none)) else (alias_Build.l1 kj40 t102 y130 y123 x9_2 t102 y127))) else (none)) else (none))) else (none)) else (none)) else (none))) else (none)) else (none)) else (none)) else (none)) else (none)) = some (r1, r2, r3) := by rw [if_pos rfl] at H;exact H
             clear H
             have H := H1
             clear H1
             obtain ⟨ji47, hji47⟩ : ∃ j_ : Int, (wrap64 ((x8_2.length : Int) - 1)) = j_ := ⟨_, rfl⟩
             replace H : (if 0 ≤ (ji47) then (if (ji47) < (x8_2.length : Int) then (if 0 ≤ (wrap64 ((x9_2.length : Int) - 1)) then (if (wrap64 ((x9_2.length : Int) - 1)) < (x9_2.length : Int) then (if (ji47) ≤ (x8_2.length : Int) then ((some (x8_2.take ((ji47) : Int).toNat : List Int)).bind fun y123 => (if 0 ≤ (rd x8_2 (ji47)) then (if (rd x8_2 (ji47)) < (x7_2.length : Int) then (if (rd x8_2 (ji47)) < (x108001_2.length : Int) then ((some (x108001_2.set ((rd x8_2 (ji47)) : Int).toNat (⟨rd x7_2 (rd x8_2 (ji47)), rd x9_2 (wrap64 ((x9_2.length : Int) - 1))⟩ : S107) : List (S107))).bind fun y127 => (if 0 ≤ (rd x9_2 (wrap64 ((x9_2.length : Int) - 1))) then (if (rd x9_2 (wrap64 ((x9_2.length : Int) - 1))) < (x7_2.length : Int) then ((some (x7_2.set ((rd x9_2 (wrap64 ((x9_2.length : Int) - 1))) : Int).toNat (IntKind.u64.wrap ((rd x7_2 (rd x9_2 (wrap64 ((x9_2.length : Int) - 1)))) - (IntKind.u64.wrap (t102 - (rd x7_2 (rd x8_2 (ji47))))))) : List Int)).bind fun y130 => (if (IntKind.u64.wrap ((rd x7_2 (rd x9_2 (wrap64 ((x9_2.length : Int) - 1)))) - (IntKind.u64.wrap (t102 - (rd x7_2 (rd x8_2 (ji47))))))) < t102 then (if (wrap64 ((x9_2.length : Int) - 1)) ≤ (x9_2.length : Int) then (if y123.length < 17592186044416 then (alias_Build.l1 kj40 t102 y130 (y123 ++ [rd x9_2 (wrap64 ((x9_2.length : Int) - 1))]) (x9_2.take ((wrap64 ((x9_2.length : Int) - 1)) : Int).toNat) t102 y127) else (none)) else (none)) else (alias_Build.l1 kj40 t102 y130 y123 x9_2 t102 y127))) else (none)) else (none))) else (none)) else (none)) else (none))) else (none)) else (none)) else (none)) else (none)) else (none)) = some (r1, r2, r3) := by first|(rw [hji47] at H;exact H)|(simp only [hji47] at H ⊢;exact H)
             have hji47w : (IntKind.i64.wrap ((x8_2.length : Int) - 1)) = ji47 := (i64_w _).trans hji47
             by_cases c48 : 0 ≤ (ji47)
             ·rw [if_pos c48] at H
              have c48b0 : decide (0 ≤ (ji47)) = true := decide_eq_true c48
              clear c48
              by_cases c49 : (ji47) < (x8_2.length : Int)
              ·rw [if_pos c49] at H
               have c49b0 : decide ((ji47) < (x8_2.length : Int)) = true := decide_eq_true c49
               clear c49
               obtain ⟨ji50, hji50⟩ : ∃ j_ : Int, (wrap64 ((x9_2.length : Int) - 1)) = j_ := ⟨_, rfl⟩
               replace H : (if 0 ≤ (ji50) then (if (ji50) < (x9_2.length : Int) then (if (ji47) ≤ (x8_2.length : Int) then ((some (x8_2.take ((ji47) : Int).toNat : List Int)).bind fun y123 => (if 0 ≤ (rd x8_2 (ji47)) then (if (rd x8_2 (ji47)) < (x7_2.length : Int) then (if (rd x8_2 (ji47)) < (x108001_2.length : Int) then ((some (x108001_2.set ((rd x8_2 (ji47)) : Int).toNat (⟨rd x7_2 (rd x8_2 (ji47)), rd x9_2 (ji50)⟩ : S107) : List (S107))).bind fun y127 => (if 0 ≤ (rd x9_2 (ji50)) then (if (rd x9_2 (ji50)) < (x7_2.length : Int) then ((some (x7_2.set ((rd x9_2 (ji50)) : Int).toNat (IntKind.u64.wrap ((rd x7_2 (rd x9_2 (ji50))) - (IntKind.u64.wrap (t102 - (rd x7_2 (rd x8_2 (ji47))))))) : List Int)).bind fun y130 => (if (IntKind.u64.wrap ((rd x7_2 (rd x9_2 (ji50))) - (IntKind.u64.wrap (t102 - (rd x7_2 (rd x8_2 (ji47))))))) < t102 then (if (ji50) ≤ (x9_2.length : Int) then (if y123.length < 17592186044416 then (alias_Build.l1 kj40 t102 y130 (y123 ++ [rd x9_2 (ji50)]) (x9_2.take ((ji50) : Int).toNat) t102 y127) else (none)) else (none)) else (alias_Build.l1 kj40 t102 y130 y123 x9_2 t102 y127))) else (none)) else (none))) else (none)) else (none)) else (none))) else (none)) else (none)) else (none)) = some (r1, r2, r3) := by first|(rw [hji50] at H;exact H)|(simp only [hji50] at H ⊢;exact H)
               have hji50w : (IntKind.i64.wrap ((x9_2.length : Int) - 1)) = ji50 := (i64_w _).trans hji50
               by_cases c51 : 0 ≤ (ji50)
               ·rw [if_pos c51] at H
                have c51b0 : decide (0 ≤ (ji50)) = true := decide_eq_true c51
                clear c51
                by_cases c52 : (ji50) < (x9_2.length : Int)
                ·rw [if_pos c52] at H
                 have c52b0 : decide ((ji50) < (x9_2.length : Int)) = true := decide_eq_true c52
                 clear c52
                 by_cases c53 : (ji47) ≤ (x8_2.length : Int)
                 ·rw [if_pos c53] at H
                  have c53b0 := eq_true c53
                  have c53b1 : decide ((ji47) ≤ (x8_2.length : Int)) = true := decide_eq_true c53
                  clear c53
                  obtain ⟨y123, hy123⟩ : ∃ y_ : List Int, y_ = (x8_2.take ((ji47) : Int).toNat) := ⟨_, rfl⟩
                  replace H : (if 0 ≤ (rd x8_2 (ji47)) then (if (rd x8_2 (ji47)) < (x7_2.length : Int) then (if (rd x8_2 (ji47)) < (x108001_2.length : Int) then ((some (x108001_2.set ((rd x8_2 (ji47)) : Int).toNat (⟨rd x7_2 (rd x8_2 (ji47)), rd x9_2 (ji50)⟩ : S107) : List (S107))).bind fun y127 => (if 0 ≤ (rd x9_2 (ji50)) then (if (rd x9_2 (ji50)) < (x7_2.length : Int) then ((some (x7_2.set ((rd x9_2 (ji50)) : Int).toNat (IntKind.u64.wrap ((rd x7_2 (rd x9_2 (ji50))) - (IntKind.u64.wrap (t102 - (rd x7_2 (rd x8_2 (ji47))))))) : List Int)).bind fun y130 => (if (IntKind.u64.wrap ((rd x7_2 (rd x9_2 (ji50))) - (IntKind.u64.wrap (t102 - (rd x7_2 (rd x8_2 (ji47))))))) < t102 then (if (ji50) ≤ (x9_2.length : Int) then (if y123.length < 17592186044416 then (alias_Build.l1 kj40 t102 y130 (y123 ++ [rd x9_2 (ji50)]) (x9_2.take ((ji50) : Int).toNat) t102 y127) else (none)) else (none)) else (alias_Build.l1 kj40 t102 y130 y123 x9_2 t102 y127))) else (none)) else (none))) else (none)) else (none)) else (none)) = some (r1, r2, r3) := by first|(rw [hy123];with_reducible exact H)|(have H2_ := (Option.bind_some _ _).symm.trans H;rw [hy123];with_reducible exact H2_)|(have H2_ := (Option.bind_some _ _).symm.trans H;with_reducible exact H2_)|with_reducible exact H|(rw [hy123];exact H)|exact H
                  have Ny123 := Aside0.mk hy123
                  clear hy123
                  by_cases c54 : 0 ≤ (rd x8_2 (ji47))
                  ·rw [if_pos c54] at H
                   have c54b0 : decide (0 ≤ (rd x8_2 (ji47))) = true := decide_eq_true c54
                   clear c54
                   by_cases c55 : (rd x8_2 (ji47)) < (x7_2.length : Int)
                   ·rw [if_pos c55] at H
                    have c55b0 : decide ((rd x8_2 (ji47)) < (x7_2.length : Int)) = true := decide_eq_true c55
                    clear c55
                    by_cases c56 : (rd x8_2 (ji47)) < (x108001_2.length : Int)
                    ·rw [if_pos c56] at H
                     have c56b0 : decide ((rd x8_2 (ji47)) < (x108001_2.length : Int)) = true := decide_eq_true c56
                     clear c56
                     obtain ⟨y127, hy127⟩ : ∃ y_ : List (S107), y_ = (x108001_2.set ((rd x8_2 (ji47)) : Int).toNat (⟨rd x7_2 (rd x8_2 (ji47)), rd x9_2 (ji50)⟩ : S107)) := ⟨_, rfl⟩
                     replace H : (if 0 ≤ (rd x9_2 (ji50)) then (if (rd x9_2 (ji50)) < (x7_2.length : Int) then ((some (x7_2.set ((rd x9_2 (ji50)) : Int).toNat (IntKind.u64.wrap ((rd x7_2 (rd x9_2 (ji50))) - (IntKind.u64.wrap (t102 - (rd x7_2 (rd x8_2 (ji47))))))) : List Int)).bind fun y130 => (if (IntKind.u64.wrap ((rd x7_2 (rd x9_2 (ji50))) - (IntKind.u64.wrap (t102 - (rd x7_2 (rd x8_2 (ji47))))))) < t102 then (if (ji50) ≤ (x9_2.length : Int) then (if y123.length < 17592186044416 then (alias_Build.l1 kj40 t102 y130 (y123 ++ [rd x9_2 (ji50)]) (x9_2.take ((ji50) : Int).toNat) t102 y127) else (none)) else (none)) else (alias_Build.l1 kj40 t102 y130 y123 x9_2 t102 y127))) else (none)) else (none)) = some (r1, r2, r3) := by first|(rw [hy127];with_reducible exact H)|(have H2_ := (Option.bind_some _ _).symm.trans H;rw [hy127];with_reducible exact H2_)|(have H2_ := (Option.bind_some _ _).symm.trans H;with_reducible exact H2_)|with_reducible exact H|(rw [hy127];exact H)|exact H
                     have Ny127 := Aside0.mk hy127
                     clear hy127
                     by_cases c58 : 0 ≤ (rd x9_2 (ji50))
                     ·rw [if_pos c58] at H
                      have c58b0 : decide (0 ≤ (rd x9_2 (ji50))) = true := decide_eq_true c58
                      clear c58
                      by_cases c59 : (rd x9_2 (ji50)) < (x7_2.length : Int)
                      ·rw [if_pos c59] at H
                       have c59b0 : decide ((rd x9_2 (ji50)) < (x7_2.length : Int)) = true := decide_eq_true c59
                       clear c59
                       obtain ⟨y130, hy130⟩ : ∃ y_ : List Int, y_ = (x7_2.set ((rd x9_2 (ji50)) : Int).toNat (IntKind.u64.wrap ((rd x7_2 (rd x9_2 (ji50))) - (IntKind.u64.wrap (t102 - (rd x7_2 (rd x8_2 (ji47)))))))) := ⟨_, rfl⟩
                       replace H : (if (IntKind.u64.wrap ((rd x7_2 (rd x9_2 (ji50))) - (IntKind.u64.wrap (t102 - (rd x7_2 (rd x8_2 (ji47))))))) < t102 then (if (ji50) ≤ (x9_2.length : Int) then (if y123.length < 17592186044416 then (alias_Build.l1 kj40 t102 y130 (y123 ++ [rd x9_2 (ji50)]) (x9_2.take ((ji50) : Int).toNat) t102 y127) else (none)) else (none)) else (alias_Build.l1 kj40 t102 y130 y123 x9_2 t102 y127)) = some (r1, r2, r3) := by first|(rw [hy130];with_reducible exact H)|(have H2_ := (Option.bind_some _ _).symm.trans H;rw [hy130];with_reducible exact H2_)|(have H2_ := (Option.bind_some _ _).symm.trans H;with_reducible exact H2_)|with_reducible exact H|(rw [hy130];exact H)|exact H
                       have Ny130 := Aside0.mk hy130
                       clear hy130
                       by_cases c62 : (IntKind.u64.wrap ((rd x7_2 (rd x9_2 (ji50))) - (IntKind.u64.wrap (t102 - (rd x7_2 (rd x8_2 (ji47))))))) < t102
                       ·rw [if_pos c62] at H
                        have c62b0 : decide ((IntKind.u64.wrap ((rd x7_2 (rd x9_2 (ji50))) - (IntKind.u64.wrap (t102 - (rd x7_2 (rd x8_2 (ji47))))))) < t102) = true := decide_eq_true c62
                        clear c62
                        by_cases c63 : (ji50) ≤ (x9_2.length : Int)
                        ·rw [if_pos c63] at H
                         have c63b0 := eq_true c63
                         have c63b1 : decide ((ji50) ≤ (x9_2.length : Int)) = true := decide_eq_true c63
                         clear c63
                         obtain ⟨y132, hy132⟩ : ∃ y_ : List Int, y_ = (x9_2.take ((ji50) : Int).toNat) := ⟨_, rfl⟩
                         replace H : (if y123.length < 17592186044416 then (alias_Build.l1 kj40 t102 y130 (y123 ++ [rd x9_2 (ji50)]) y132 t102 y127) else (none)) = some (r1, r2, r3) := by first|(rw [hy132];with_reducible exact H)|(have H2_ := (Option.bind_some _ _).symm.trans H;rw [hy132];with_reducible exact H2_)|(have H2_ := (Option.bind_some _ _).symm.trans H;with_reducible exact H2_)|with_reducible exact H|(rw [hy132];exact H)|exact H
                         have Ny132 := Aside0.mk hy132
                         clear hy132
                         by_cases c64 : y123.length < 17592186044416
                         ·rw [if_pos c64] at H
                          have LMc64 := Aside0.mk c64
                          clear c64
                          obtain ⟨y135, hy135⟩ : ∃ y_ : List Int, y_ = (y123 ++ [rd x9_2 (ji50)]) := ⟨_, rfl⟩
                          replace H : (alias_Build.l1 kj40 t102 y130 y135 y132 t102 y127) = some (r1, r2, r3) := by first|(rw [hy135];with_reducible exact H)|(have H2_ := (Option.bind_some _ _).symm.trans H;rw [hy135];with_reducible exact H2_)|(have H2_ := (Option.bind_some _ _).symm.trans H;with_reducible exact H2_)|with_reducible exact H|(rw [hy135];exact H)|exact H
                          have Ny135 := Aside0.mk hy135
                          clear hy135
                          have H' := Aside0.mk H
                          clear H
                          try go_wp2
                          have n0_ := Aside0.mk (Kd.R_drew HO_7.out)
                          have n1_ := Aside0.mk (Kd.R_drew HO_8.out)
                          have n2_ := Aside0.mk (Kd.R_drew HO_9.out)
                          have n3_ := Aside0.mk (Kd.R_drew HO_108001.out)
                          have n4_ := Aside0.mk (blk_drew BK101.out)
                          have n5_ := Aside0.mk (blk_drew BK107.out)
                          have n6_ := Aside0.mk (below_drew1 HB.out)
                          clear HO_7
                          clear HO_8
                          clear HO_9
                          clear HO_108001
                          clear BK101
                          clear BK107
                          clear HB
                          have HO_7 := n0_
                          have HO_8 := n1_
                          have HO_9 := n2_
                          have HO_108001 := n3_
                          have BK101 := n4_
                          have BK107 := n5_
                          have HB := n6_
                          clear n0_ n1_ n2_ n3_ n4_ n5_ n6_
                          obtain ⟨Ao66, co66, eo66⟩ := Kd.R_slice HO_8.out
                          (first|subst eo66|(injection eo66 with f1_ f2_ f3_;have f4_ := f1_.symm;have f5_ := f3_.symm;clear f1_ f2_ f3_;subst f4_;subst f5_))
                          have p121 : 0 ≤ ((ji47) : Int) := of_decide_eq_true (by first|(with_reducible assumption)|assumption)
                          have q121 : (ji47) < (x8_2.length : Int) := of_decide_eq_true (by first|(with_reducible assumption)|assumption)
                          obtain ⟨ad121, e121, hx121_0⟩ := Kd.at_int (Kd.R_reads' HO_8.out).2.2 (ji47) p121 q121
                          cases e121
                          replace p121 := eq_true p121
                          replace q121 := eq_true q121
                          obtain ⟨Ao67, co67, eo67⟩ := Kd.R_slice HO_9.out
                          (first|subst eo67|(injection eo67 with f1_ f2_ f3_;have f4_ := f1_.symm;have f5_ := f3_.symm;clear f1_ f2_ f3_;subst f4_;subst f5_))
                          have p122 : 0 ≤ ((ji50) : Int) := of_decide_eq_true (by first|(with_reducible assumption)|assumption)
                          have q122 : (ji50) < (x9_2.length : Int) := of_decide_eq_true (by first|(with_reducible assumption)|assumption)
                          obtain ⟨ad122, e122, hx122_0⟩ := Kd.at_int (Kd.R_reads' HO_9.out).2.2 (ji50) p122 q122
                          cases e122
                          replace p122 := eq_true p122
                          replace q122 := eq_true q122
                          refine start_ (n := 14) (S := fun w' => w'.cell? (ad121.add ((ji47)).toNat) = some (.int .i64 (rd x8_2 (ji47))) ∧ w'.cell? (ad122.add ((ji50)).toNat) = some (.int .i64 (rd x9_2 (ji50)))) (ds := []) #[false, false, false, false, false, false, false, false, false, false, false, false, false, false] (by kernel_rfl) rfl rfl ⟨hx121_0, hx122_0⟩ (fun hHeld => ?_);refine with_tabW alias_Build.tab17 alias_Build.bits17 (fun HT_ HW_ => ?_)
                          generalize wc.drew = w65 at HO_7 HO_8 HO_9 HO_108001 BK101 BK107 HB hx121_0 hx122_0 hHeld ⊢
                          refine pure_ (i := 0) (N := some 76) (v := ?_) (a' := ?_) #[true, false, false, false, false, false, false, false, false, false, false, false, false, false] rfl rfl (any_of HT_.out (by kernel_rfl)) (fun _ _ _ h => h) (Or.inl ⟨by rfl, ?_⟩) ?_ ?_
                          rotate_left
                          ·intro w'
                           go_simp
                           with_reducible rfl
                          rotate_left
                          ·simp only [Act.put, List.setIfInBounds_toArray, List.set_cons_zero, List.set_cons_succ, i64_w, i32_w]
                           rfl
                          refine pure_ (i := 1) (N := some 77) (v := ?_) (a' := ?_) #[true, true, false, false, false, false, false, false, false, false, false, false, false, false] rfl rfl (any_of HT_.out (by kernel_rfl)) (fun _ _ _ h => h) (Or.inl ⟨by rfl, ?_⟩) ?_ ?_
                          rotate_left
                          ·intro w'
                           go_simp
                           with_reducible rfl
                          rotate_left
                          ·simp only [Act.put, List.setIfInBounds_toArray, List.set_cons_zero, List.set_cons_succ, i64_w, i32_w]
                           rfl
                          refine pure_ (i := 2) (N := some 78) (v := ?_) (a' := ?_) #[true, true, true, false, false, false, false, false, false, false, false, false, false, false] rfl rfl (any_of HT_.out (by kernel_rfl)) (fun _ _ _ h => h) (Or.inl ⟨by rfl, ?_⟩) ?_ ?_
                          rotate_left
                          ·intro w'
                           go_simp
                           with_reducible rfl
                          rotate_left
                          ·simp only [Act.put, List.setIfInBounds_toArray, List.set_cons_zero, List.set_cons_succ, i64_w, i32_w]
                           rfl
                          refine pure_ (i := 3) (N := some 79) (v := ?_) (a' := ?_) #[true, true, true, true, false, false, false, false, false, false, false, false, false, false] rfl rfl (any_of HT_.out (by kernel_rfl)) (fun _ _ _ h => h) (Or.inl ⟨by rfl, ?_⟩) ?_ ?_
                          rotate_left
                          ·intro w'
                           go_simp
                           with_reducible rfl
                          rotate_left
                          ·simp only [Act.put, List.setIfInBounds_toArray, List.set_cons_zero, List.set_cons_succ, i64_w, i32_w]
                           rfl
                          refine pure_ (i := 4) (N := some 80) (v := ?_) (a' := ?_) #[true, true, true, true, true, false, false, false, false, false, false, false, false, false] rfl rfl (any_of HT_.out (by kernel_rfl)) (fun _ _ _ h => h) (Or.inl ⟨by rfl, ?_⟩) ?_ ?_
                          rotate_left
                          ·intro w'
                           go_simp
                           with_reducible rfl
                          rotate_left
                          ·simp only [Act.put, List.setIfInBounds_toArray, List.set_cons_zero, List.set_cons_succ, i64_w, i32_w]
                           rfl
                          refine pure_ (i := 6) (N := some 82) (v := ?_) (a' := ?_) #[true, true, true, true, true, false, true, false, false, false, false, false, false, false] rfl rfl (any_of HT_.out (by kernel_rfl)) (fun _ _ _ h => h) (Or.inl ⟨by rfl, ?_⟩) ?_ ?_
                          rotate_left
                          ·intro w'
                           go_simp
                           with_reducible rfl
                          rotate_left
                          ·simp only [Act.put, List.setIfInBounds_toArray, List.set_cons_zero, List.set_cons_succ, i64_w, i32_w]
                           rfl
                          refine pure_ (i := 7) (N := some 83) (v := ?_) (a' := ?_) #[true, true, true, true, true, false, true, true, false, false, false, false, false, false] rfl rfl (any_of HT_.out (by kernel_rfl)) (fun _ _ _ h => h) (Or.inl ⟨by rfl, ?_⟩) ?_ ?_
                          rotate_left
                          ·intro w'
                           go_simp
                           with_reducible rfl
                          rotate_left
                          ·simp only [Act.put, List.setIfInBounds_toArray, List.set_cons_zero, List.set_cons_succ, i64_w, i32_w]
                           rfl
                          refine pure_ (i := 8) (N := some 84) (v := ?_) (a' := ?_) #[true, true, true, true, true, false, true, true, true, false, false, false, false, false] rfl rfl (any_of HT_.out (by kernel_rfl)) (fun _ _ _ h => h) (Or.inl ⟨by rfl, ?_⟩) ?_ ?_
                          rotate_left
                          ·intro w'
                           go_simp
                           with_reducible rfl
                          rotate_left
                          ·simp only [Act.put, List.setIfInBounds_toArray, List.set_cons_zero, List.set_cons_succ, i64_w, i32_w]
                           rfl
                          refine pure_ (i := 9) (N := some 85) (v := ?_) (a' := ?_) #[true, true, true, true, true, false, true, true, true, true, false, false, false, false] rfl rfl (any_of HT_.out (by kernel_rfl)) (fun _ _ _ h => h) (Or.inl ⟨by rfl, ?_⟩) ?_ ?_
                          rotate_left
                          ·intro w'
                           go_simp
                           with_reducible rfl
                          rotate_left
                          ·simp only [Act.put, List.setIfInBounds_toArray, List.set_cons_zero, List.set_cons_succ, i64_w, i32_w]
                           rfl
                          refine pure_ (i := 10) (N := some 86) (v := ?_) (a' := ?_) #[true, true, true, true, true, false, true, true, true, true, true, false, false, false] rfl rfl (any_of HT_.out (by kernel_rfl)) (fun _ _ _ h => h) (Or.inl ⟨by rfl, ?_⟩) ?_ ?_
                          rotate_left
                          ·intro w'
                           go_simp
                           with_reducible rfl
                          rotate_left
                          ·simp only [Act.put, List.setIfInBounds_toArray, List.set_cons_zero, List.set_cons_succ, i64_w, i32_w]
                           rfl
                          refine take_ (i := 5) (N := some 81) (v := ?_) (a' := ?_) #[true, true, true, true, true, true, true, true, true, true, true, false, false, false] rfl rfl (take_ofW HT_.out HW_.out (by kernel_rfl)) (fun _ _ _ h => h) (Or.inl ⟨by rfl, ?_⟩) hHeld ?_ ?_
                          rotate_left
                          ·rintro w' ⟨s0, s1⟩
                           go_simp
                           with_reducible rfl
                          rotate_left
                          ·simp only [Act.put, List.setIfInBounds_toArray, List.set_cons_zero, List.set_cons_succ, i64_w, i32_w]
                           rfl
                          refine pure_ (i := 12) (N := some 12) (v := ?_) (a' := ?_) #[true, true, true, true, true, true, true, true, true, true, true, false, true, false] rfl rfl (any_of HT_.out (by kernel_rfl)) (fun _ _ _ h => h) (Or.inl ⟨by rfl, ?_⟩) ?_ ?_
                          rotate_left
                          ·intro w'
                           go_simp
                           with_reducible rfl
                          rotate_left
                          ·simp only [Act.put, List.setIfInBounds_toArray, List.set_cons_zero, List.set_cons_succ, i64_w, i32_w]
                           rfl
                          refine take_ (i := 11) (N := some 87) (v := ?_) (a' := ?_) #[true, true, true, true, true, true, true, true, true, true, true, true, true, false] rfl rfl (take_ofW HT_.out HW_.out (by kernel_rfl)) (fun _ _ _ h => h) (Or.inl ⟨by rfl, ?_⟩) hHeld ?_ ?_
                          rotate_left
                          ·rintro w' ⟨s0, s1⟩
                           go_simp
                           with_reducible rfl
                          rotate_left
                          ·simp only [Act.put, List.setIfInBounds_toArray, List.set_cons_zero, List.set_cons_succ, i64_w, i32_w]
                           rfl
                          refine pure_ (i := 13) (N := some 13) (v := ?_) (a' := ?_) #[true, true, true, true, true, true, true, true, true, true, true, true, true, true] rfl rfl (any_of HT_.out (by kernel_rfl)) (fun _ _ _ h => h) (Or.inl ⟨by rfl, ?_⟩) ?_ ?_
                          rotate_left
                          ·intro w'
                           go_simp
                           with_reducible rfl
                          rotate_left
                          ·simp only [Act.put, List.setIfInBounds_toArray, List.set_cons_zero, List.set_cons_succ, i64_w, i32_w]
                           rfl
                          refine done_ (done_of HT_.out (by kernel_rfl)) ?_
                          have q68 : ((ji47) : Int) ≤ ((x8_2.length : Int) : Int) := of_decide_eq_true (by first|(with_reducible assumption)|assumption)
                          obtain ⟨i068, hi068, _, hsz68, _⟩ := info_parts info3
                          have hcut68 := cut_to (P := Try.prog) 29 3 .i64 Try.underlying29 hi068 (some ad121) x8_2.length co66 (ji47) (of_decide_eq_true (by first|(with_reducible assumption)|assumption)) q68 (Kd.R_reads' HO_8.out).2.1
                          have hr68 := Kd.R_take (m := ((ji47) : Int).toNat) HO_8.out (by omega)
                          have hy68 : y123.length = ((ji47) : Int).toNat := (by rw [Ny123.out, List.length_take];omega)
                          rw [← Ny123.out] at hr68
                          rw [← hy68] at hr68 hcut68
                          clear hy68 hi068 hsz68 HO_8
                          have HO125 := Aside0.mk hr68
                          clear hr68
                          replace q68 := eq_true q68
                          try go_wp2
                          have n0_ := Aside0.mk (Kd.R_drew HO_7.out)
                          have n1_ := Aside0.mk (Kd.R_drew HO125.out)
                          have n2_ := Aside0.mk (Kd.R_drew HO_9.out)
                          have n3_ := Aside0.mk (Kd.R_drew HO_108001.out)
                          have n4_ := Aside0.mk (blk_drew BK101.out)
                          have n5_ := Aside0.mk (blk_drew BK107.out)
                          have n6_ := Aside0.mk (below_drew1 HB.out)
                          clear HO_7
                          clear HO125
                          clear HO_9
                          clear HO_108001
                          clear BK101
                          clear BK107
                          clear HB
                          have HO_7 := n0_
                          have HO125 := n1_
                          have HO_9 := n2_
                          have HO_108001 := n3_
                          have BK101 := n4_
                          have BK107 := n5_
                          have HB := n6_
                          clear n0_ n1_ n2_ n3_ n4_ n5_ n6_
                          obtain ⟨Ao70, co70, eo70⟩ := Kd.R_slice HO_7.out
                          (first|subst eo70|(injection eo70 with f1_ f2_ f3_;have f4_ := f1_.symm;have f5_ := f3_.symm;clear f1_ f2_ f3_;subst f4_;subst f5_))
                          have p126 : 0 ≤ ((rd x8_2 (ji47)) : Int) := of_decide_eq_true (by first|(with_reducible assumption)|assumption)
                          have q126 : (rd x8_2 (ji47)) < (x7_2.length : Int) := of_decide_eq_true (by first|(with_reducible assumption)|assumption)
                          obtain ⟨ad126, e126, hx126_0⟩ := Kd.at_int (Kd.R_reads' HO_7.out).2.2 (rd x8_2 (ji47)) p126 q126
                          cases e126
                          replace p126 := eq_true p126
                          replace q126 := eq_true q126
                          have p57 : 0 ≤ ((rd x8_2 (ji47)) : Int) := of_decide_eq_true (by first|(with_reducible assumption)|assumption)
                          have q57 : ((rd x8_2 (ji47)) : Int) < ((x108001_2.length : Int) : Int) := of_decide_eq_true (by first|(with_reducible assumption)|assumption)
                          obtain ⟨go57, co57, eo57, gb57, gl57, cl57, HG57⟩ := Kd.R_form HO_108001.out (by omega)
                          (first|cases eo57|(injection eo57 with ea_ en_ ec_;(first|subst ea_|(injection ea_ with ea_;subst ea_));subst ec_;clear en_))
                          have GB57 := Aside0.mk gb57
                          have GG57 := Aside0.mk HG57
                          clear gb57 gl57 HG57
                          obtain ⟨ce57, hcl57, hM57, hcc57, hfr57⟩ := Kd.R_elem HO_108001.out z107 ((rd x8_2 (ji47)) : Int) p57 q57
                          obtain rfl := k107_openM hM57
                          have hx57_0 : World.cell? _ ⟨go57, ((rd x8_2 (ji47)) : Int).toNat * 2, none⟩ = some (.int .u64 ((rd_T107 x108001_2 (rd x8_2 (ji47))).f0)) := hcc57 0 _ rfl
                          have hx57_1 : World.cell? _ ⟨go57, ((rd x8_2 (ji47)) : Int).toNat * 2 + 1, none⟩ = some (.int .i64 ((rd_T107 x108001_2 (rd x8_2 (ji47))).f1)) := hcc57 1 _ rfl
                          have hf57_0 : World.frozen? _ ⟨go57, ((rd x8_2 (ji47)) : Int).toNat * 2, none⟩ = false := hfr57 0
                          have hf57_1 : World.frozen? _ ⟨go57, ((rd x8_2 (ji47)) : Int).toNat * 2 + 1, none⟩ = false := hfr57 1
                          clear hcl57 hcc57 hfr57 hM57
                          replace p57 := eq_true p57
                          replace q57 := eq_true q57
                          obtain ⟨ce71, hcl71, hM71, hcc71, hfr71⟩ := Kd.R_elem HO_108001.out z107 ((rd x8_2 (ji47)) : Int) (of_decide_eq_true (by first|(with_reducible assumption)|assumption)) (by have h_ : ((rd x8_2 (ji47)) : Int) < ((x108001_2.length : Int) : Int) := of_decide_eq_true (by first|(with_reducible assumption)|assumption);first|exact h_|(have e_ := (Kd.R_reads' HO_108001.out).1;omega)|simpa using h_)
                          obtain rfl := k107_openM hM71
                          have HP71 := (Kd.R_seg HO_108001.out ((rd x8_2 (ji47)) : Int) (of_decide_eq_true (by first|(with_reducible assumption)|assumption)) (by have h_ : ((rd x8_2 (ji47)) : Int) < ((x108001_2.length : Int) : Int) := of_decide_eq_true (by first|(with_reducible assumption)|assumption);first|exact h_|(have e_ := (Kd.R_reads' HO_108001.out).1;omega)|simpa using h_) (seg := [.int .u64 (rd x7_2 (rd x8_2 (ji47))), .int .i64 (rd x9_2 (ji50))]) (j := 0) hcl71 hcc71 (show 2 ≤ 2 from by decide) (x' := (⟨rd x7_2 (rd x8_2 (ji47)), rd x9_2 (ji50)⟩ : S107)) (k107_mkM _ _ _ (⟨rd x7_2 (rd x8_2 (ji47)), rd x9_2 (ji50)⟩ : S107) ) (fun _ hk => hk)).1
                          rw [← Ny127.out] at HP71
                          have HQ71 := Aside0.mk HP71
                          clear hcl71 hcc71 hfr71 hM71 HP71
                          refine start_ (n := 11) (S := fun w' => w'.cell? ⟨gb107, 0, none⟩ = some (.int .u64 t102) ∧ w'.cell? ⟨gb107, 1, none⟩ = some (.slice (some ⟨go57, 0, none⟩) x108001_2.length co57) ∧ w'.cell? (ad126.add ((rd x8_2 (ji47))).toNat) = some (.int .u64 (rd x7_2 (rd x8_2 (ji47))))) (ds := [10]) #[false, false, false, false, false, false, false, false, false, false, false] (by kernel_rfl) rfl rfl ⟨(blk_cell BK107.out 0).trans rfl, (blk_cell BK107.out 1).trans rfl, hx126_0⟩ (fun hHeld => ?_);refine with_tabW alias_Build.tab19 alias_Build.bits19 (fun HT_ HW_ => ?_)
                          generalize w65.drew = w69 at HO_7 HO125 HO_9 HO_108001 BK101 BK107 HB GG57 HQ71 hf57_0 hf57_1 hx126_0 hx57_0 hx57_1 hHeld ⊢
                          refine pure_ (i := 0) (N := some 93) (v := ?_) (a' := ?_) #[true, false, false, false, false, false, false, false, false, false, false] rfl rfl (any_of HT_.out (by kernel_rfl)) (fun _ _ _ h => h) (Or.inl ⟨by rfl, ?_⟩) ?_ ?_
                          rotate_left
                          ·intro w'
                           go_simp
                           with_reducible rfl
                          rotate_left
                          ·simp only [Act.put, List.setIfInBounds_toArray, List.set_cons_zero, List.set_cons_succ, i64_w, i32_w]
                           rfl
                          refine pure_ (i := 2) (N := some 95) (v := ?_) (a' := ?_) #[true, false, true, false, false, false, false, false, false, false, false] rfl rfl (any_of HT_.out (by kernel_rfl)) (fun _ _ _ h => h) (Or.inl ⟨by rfl, ?_⟩) ?_ ?_
                          rotate_left
                          ·intro w'
                           go_simp
                           with_reducible rfl
                          rotate_left
                          ·simp only [Act.put, List.setIfInBounds_toArray, List.set_cons_zero, List.set_cons_succ, i64_w, i32_w]
                           rfl
                          refine pure_ (i := 3) (N := some 96) (v := ?_) (a' := ?_) #[true, false, true, true, false, false, false, false, false, false, false] rfl rfl (any_of HT_.out (by kernel_rfl)) (fun _ _ _ h => h) (Or.inl ⟨by rfl, ?_⟩) ?_ ?_
                          rotate_left
                          ·intro w'
                           go_simp
                           with_reducible rfl
                          rotate_left
                          ·simp only [Act.put, List.setIfInBounds_toArray, List.set_cons_zero, List.set_cons_succ, i64_w, i32_w]
                           rfl
                          refine pure_ (i := 4) (N := some 97) (v := ?_) (a' := ?_) #[true, false, true, true, true, false, false, false, false, false, false] rfl rfl (any_of HT_.out (by kernel_rfl)) (fun _ _ _ h => h) (Or.inl ⟨by rfl, ?_⟩) ?_ ?_
                          rotate_left
                          ·intro w'
                           go_simp
                           with_reducible rfl
                          rotate_left
                          ·simp only [Act.put, List.setIfInBounds_toArray, List.set_cons_zero, List.set_cons_succ, i64_w, i32_w]
                           rfl
                          refine pure_ (i := 5) (N := some 98) (v := ?_) (a' := ?_) #[true, false, true, true, true, true, false, false, false, false, false] rfl rfl (any_of HT_.out (by kernel_rfl)) (fun _ _ _ h => h) (Or.inl ⟨by rfl, ?_⟩) ?_ ?_
                          rotate_left
                          ·intro w'
                           go_simp
                           with_reducible rfl
                          rotate_left
                          ·simp only [Act.put, List.setIfInBounds_toArray, List.set_cons_zero, List.set_cons_succ, i64_w, i32_w]
                           rfl
                          refine pure_ (i := 7) (N := some 100) (v := ?_) (a' := ?_) #[true, false, true, true, true, true, false, true, false, false, false] rfl rfl (any_of HT_.out (by kernel_rfl)) (fun _ _ _ h => h) (Or.inl ⟨by rfl, ?_⟩) ?_ ?_
                          rotate_left
                          ·intro w'
                           go_simp
                           with_reducible rfl
                          rotate_left
                          ·simp only [Act.put, List.setIfInBounds_toArray, List.set_cons_zero, List.set_cons_succ, i64_w, i32_w]
                           rfl
                          refine take_ (i := 1) (N := some 94) (v := ?_) (a' := ?_) #[true, true, true, true, true, true, false, true, false, false, false] rfl rfl (take_ofW HT_.out HW_.out (by kernel_rfl)) (fun _ _ _ h => h) (Or.inl ⟨by rfl, ?_⟩) hHeld ?_ ?_
                          rotate_left
                          ·rintro w' ⟨s0, s1, s2⟩
                           go_simp
                           with_reducible rfl
                          rotate_left
                          ·simp only [Act.put, List.setIfInBounds_toArray, List.set_cons_zero, List.set_cons_succ, i64_w, i32_w]
                           rfl
                          refine take_ (i := 6) (N := some 99) (v := ?_) (a' := ?_) #[true, true, true, true, true, true, true, true, false, false, false] rfl rfl (take_ofW HT_.out HW_.out (by kernel_rfl)) (fun _ _ _ h => h) (Or.inl ⟨by rfl, ?_⟩) hHeld ?_ ?_
                          rotate_left
                          ·rintro w' ⟨s0, s1, s2⟩
                           go_simp
                           with_reducible rfl
                          rotate_left
                          ·simp only [Act.put, List.setIfInBounds_toArray, List.set_cons_zero, List.set_cons_succ, i64_w, i32_w]
                           rfl
                          refine pure_ (i := 8) (N := some 101) (v := ?_) (a' := ?_) #[true, true, true, true, true, true, true, true, true, false, false] rfl rfl (any_of HT_.out (by kernel_rfl)) (fun _ _ _ h => h) (Or.inl ⟨by rfl, ?_⟩) ?_ ?_
                          rotate_left
                          ·intro w'
                           go_simp
                           with_reducible rfl
                          rotate_left
                          ·simp only [Act.put, List.setIfInBounds_toArray, List.set_cons_zero, List.set_cons_succ, i64_w, i32_w]
                           rfl
                          refine pure_ (i := 9) (N := some 102) (v := ?_) (a' := ?_) #[true, true, true, true, true, true, true, true, true, true, false] rfl rfl (any_of HT_.out (by kernel_rfl)) (fun _ _ _ h => h) (Or.inl ⟨by rfl, ?_⟩) ?_ ?_
                          rotate_left
                          ·intro w'
                           go_simp
                           with_reducible rfl
                          rotate_left
                          ·simp only [Act.put, List.setIfInBounds_toArray, List.set_cons_zero, List.set_cons_succ, i64_w, i32_w]
                           rfl
                          refine last_ (i := 10) (N := none) #[true, true, true, true, true, true, true, true, true, true, true] rfl rfl (one_of HT_.out (by kernel_rfl)) (by decide) (fun K hK => ?_)
                          refine skip_ (w1 := ?_) (by rfl) rfl ?_ ?_
                          rotate_left
                          ·go_simp
                           rfl
                          refine hK.out _ _ ?_
                          clear hK K
                          refine done_ (done_of HT_.out (by kernel_rfl)) ?_
                          try go_wp2
                          have n0_ : Aside0 (Kd.R (Kd.int .u64) 22 ((w69.setCell ⟨go57, ((rd x8_2 (ji47)) : Int).toNat * 2, none⟩ (.int .u64 (rd x7_2 (rd x8_2 (ji47))))).setCell ⟨go57, ((rd x8_2 (ji47)) : Int).toNat * 2 + 1, none⟩ (.int .i64 (rd x9_2 (ji50)))) w.heap.size (fun _ => True) (.slice (some ad126) x7_2.length co70) x7_2) := ⟨by (with_reducible repeat (first|apply Kd.R_alloc|apply Kd.R_drewN|apply Kd.R_drew));exact Kd.R_mono (Kd.R_far (p := ⟨go57, ((rd x8_2 (ji47)) : Int).toNat * 2 + 1, none⟩) (Kd.R_far (p := ⟨go57, ((rd x8_2 (ji47)) : Int).toNat * 2, none⟩) (Kd.R_types HO_7.out GG57.out (by decide)) (fun _ hk => hk.2) (.int .u64 (rd x7_2 (rd x8_2 (ji47))))) (fun _ hk => hk.2) (.int .i64 (rd x9_2 (ji50)))) (fun _ hk => trivial)⟩
                          have n1_ : Aside0 (Kd.R (Kd.int .i64) 3 ((w69.setCell ⟨go57, ((rd x8_2 (ji47)) : Int).toNat * 2, none⟩ (.int .u64 (rd x7_2 (rd x8_2 (ji47))))).setCell ⟨go57, ((rd x8_2 (ji47)) : Int).toNat * 2 + 1, none⟩ (.int .i64 (rd x9_2 (ji50)))) w.heap.size (fun k_ => some k_ ≠ (.slice (some ad122) x9_2.length co67 : Value).ownBlock) (.slice (some ad121) y123.length co66) y123) := ⟨by (with_reducible repeat (first|apply Kd.R_alloc|apply Kd.R_drewN|apply Kd.R_drew));exact Kd.R_mono (Kd.R_far (p := ⟨go57, ((rd x8_2 (ji47)) : Int).toNat * 2 + 1, none⟩) (Kd.R_far (p := ⟨go57, ((rd x8_2 (ji47)) : Int).toNat * 2, none⟩) (Kd.R_types HO125.out GG57.out (by decide)) (fun _ hk => hk.2) (.int .u64 (rd x7_2 (rd x8_2 (ji47))))) (fun _ hk => hk.2) (.int .i64 (rd x9_2 (ji50)))) (fun _ hk => hk.1)⟩
                          have n2_ : Aside0 (Kd.R (Kd.int .i64) 3 ((w69.setCell ⟨go57, ((rd x8_2 (ji47)) : Int).toNat * 2, none⟩ (.int .u64 (rd x7_2 (rd x8_2 (ji47))))).setCell ⟨go57, ((rd x8_2 (ji47)) : Int).toNat * 2 + 1, none⟩ (.int .i64 (rd x9_2 (ji50)))) w.heap.size (fun k_ => some k_ ≠ (.slice (some ad121) y123.length co66 : Value).ownBlock) (.slice (some ad122) x9_2.length co67) x9_2) := ⟨by (with_reducible repeat (first|apply Kd.R_alloc|apply Kd.R_drewN|apply Kd.R_drew));exact Kd.R_mono (Kd.R_far (p := ⟨go57, ((rd x8_2 (ji47)) : Int).toNat * 2 + 1, none⟩) (Kd.R_far (p := ⟨go57, ((rd x8_2 (ji47)) : Int).toNat * 2, none⟩) (Kd.R_types HO_9.out GG57.out (by decide)) (fun _ hk => hk.2) (.int .u64 (rd x7_2 (rd x8_2 (ji47))))) (fun _ hk => hk.2) (.int .i64 (rd x9_2 (ji50)))) (fun _ hk => hk.1)⟩
                          have n3_ : Aside0 (Kd.R k107 107 ((w69.setCell ⟨go57, ((rd x8_2 (ji47)) : Int).toNat * 2, none⟩ (.int .u64 (rd x7_2 (rd x8_2 (ji47))))).setCell ⟨go57, ((rd x8_2 (ji47)) : Int).toNat * 2 + 1, none⟩ (.int .i64 (rd x9_2 (ji50)))) w.heap.size (fun _ => True) (.slice (some ⟨go57, 0, none⟩) x108001_2.length co57) y127) := ⟨by (with_reducible repeat (first|apply Kd.R_alloc|apply Kd.R_drewN|apply Kd.R_drew));exact HQ71.out⟩
                          have n4_ : Aside0 (((w69.setCell ⟨go57, ((rd x8_2 (ji47)) : Int).toNat * 2, none⟩ (.int .u64 (rd x7_2 (rd x8_2 (ji47))))).setCell ⟨go57, ((rd x8_2 (ji47)) : Int).toNat * 2 + 1, none⟩ (.int .i64 (rd x9_2 (ji50)))).heap[gb101]? = some (.cells #[.int .u64 0, .slice none 0 0] 53 (0, 0))) := ⟨by (with_reducible repeat (first|refine blk_drewN ?_ _|refine blk_drew ?_|refine blk_alloc ?_ _));refine blk_far ?_ (by have h_ := Kd.R_ne HO_108001.out BK101.out (by decide);intro e_;exact h_ (by rw [e_];rfl)) _;(with_reducible repeat (first|refine blk_drewN ?_ _|refine blk_drew ?_|refine blk_alloc ?_ _));refine blk_far ?_ (by have h_ := Kd.R_ne HO_108001.out BK101.out (by decide);intro e_;exact h_ (by rw [e_];rfl)) _;(with_reducible repeat (first|refine blk_drewN ?_ _|refine blk_drew ?_|refine blk_alloc ?_ _));exact BK101.out⟩
                          have n5_ : Aside0 (((w69.setCell ⟨go57, ((rd x8_2 (ji47)) : Int).toNat * 2, none⟩ (.int .u64 (rd x7_2 (rd x8_2 (ji47))))).setCell ⟨go57, ((rd x8_2 (ji47)) : Int).toNat * 2 + 1, none⟩ (.int .i64 (rd x9_2 (ji50)))).heap[gb107]? = some (.cells #[.int .u64 t102, .slice (some ⟨go57, 0, none⟩) x108001_2.length co57] 53 (0, 0))) := ⟨by (with_reducible repeat (first|refine blk_drewN ?_ _|refine blk_drew ?_|refine blk_alloc ?_ _));refine blk_far ?_ (by have h_ := Kd.R_ne HO_108001.out BK107.out (by decide);intro e_;exact h_ (by rw [e_];rfl)) _;(with_reducible repeat (first|refine blk_drewN ?_ _|refine blk_drew ?_|refine blk_alloc ?_ _));refine blk_far ?_ (by have h_ := Kd.R_ne HO_108001.out BK107.out (by decide);intro e_;exact h_ (by rw [e_];rfl)) _;(with_reducible repeat (first|refine blk_drewN ?_ _|refine blk_drew ?_|refine blk_alloc ?_ _));exact BK107.out⟩
                          have n6_ : Aside0 (Below w.heap.size w ((w69.setCell ⟨go57, ((rd x8_2 (ji47)) : Int).toNat * 2, none⟩ (.int .u64 (rd x7_2 (rd x8_2 (ji47))))).setCell ⟨go57, ((rd x8_2 (ji47)) : Int).toNat * 2 + 1, none⟩ (.int .i64 (rd x9_2 (ji50))))) := ⟨by repeat (first|(with_reducible first|exact HB.out|apply below_alloc|apply pw_below_drewN|apply below_drew1|refine below_set ?_ GB57.out|refine below_set ?_ GB57.out|refine below_set ?_ GE101.out|refine below_set ?_ GE107.out)|exact HB.out)⟩
                          (try clear HO_7)
                          (try clear HO125)
                          (try clear HO_9)
                          (try clear HO_108001)
                          (try clear BK101)
                          (try clear BK107)
                          (try clear HB)
                          generalize ((w69.setCell ⟨go57, ((rd x8_2 (ji47)) : Int).toNat * 2, none⟩ (.int .u64 (rd x7_2 (rd x8_2 (ji47))))).setCell ⟨go57, ((rd x8_2 (ji47)) : Int).toNat * 2 + 1, none⟩ (.int .i64 (rd x9_2 (ji50)))) = w72 at n0_ n1_ n2_ n3_ n4_ n5_ n6_ ⊢
                          have HO_7 := n0_
                          have HO125 := n1_
                          have HO_9 := n2_
                          have HO_108001 := n3_
                          have BK101 := n4_
                          have BK107 := n5_
                          have HB := n6_
                          clear n0_ n1_ n2_ n3_ n4_ n5_ n6_
                          have n0_ := Aside0.mk (Kd.R_drew HO_7.out)
                          have n1_ := Aside0.mk (Kd.R_drew HO125.out)
                          have n2_ := Aside0.mk (Kd.R_drew HO_9.out)
                          have n3_ := Aside0.mk (Kd.R_drew HO_108001.out)
                          have n4_ := Aside0.mk (blk_drew BK101.out)
                          have n5_ := Aside0.mk (blk_drew BK107.out)
                          have n6_ := Aside0.mk (below_drew1 HB.out)
                          clear HO_7
                          clear HO125
                          clear HO_9
                          clear HO_108001
                          clear BK101
                          clear BK107
                          clear HB
                          have HO_7 := n0_
                          have HO125 := n1_
                          have HO_9 := n2_
                          have HO_108001 := n3_
                          have BK101 := n4_
                          have BK107 := n5_
                          have HB := n6_
                          clear n0_ n1_ n2_ n3_ n4_ n5_ n6_
                          have p128 : 0 ≤ ((rd x9_2 (ji50)) : Int) := of_decide_eq_true (by first|(with_reducible assumption)|assumption)
                          have q128 : (rd x9_2 (ji50)) < (x7_2.length : Int) := of_decide_eq_true (by first|(with_reducible assumption)|assumption)
                          obtain ⟨ad128, e128, hx128_0⟩ := Kd.at_int (Kd.R_reads' HO_7.out).2.2 (rd x9_2 (ji50)) p128 q128
                          obtain rfl : ad126 = ad128 := (by injection e128)
                          replace p128 := eq_true p128
                          replace q128 := eq_true q128
                          have p129 : 0 ≤ ((rd x8_2 (ji47)) : Int) := of_decide_eq_true (by first|(with_reducible assumption)|assumption)
                          have q129 : (rd x8_2 (ji47)) < (x7_2.length : Int) := of_decide_eq_true (by first|(with_reducible assumption)|assumption)
                          obtain ⟨ad129, e129, hx129_0⟩ := Kd.at_int (Kd.R_reads' HO_7.out).2.2 (rd x8_2 (ji47)) p129 q129
                          obtain rfl : ad126 = ad129 := (by injection e129)
                          replace p129 := eq_true p129
                          replace q129 := eq_true q129
                          have p60 : 0 ≤ ((rd x9_2 (ji50)) : Int) := of_decide_eq_true (by first|(with_reducible assumption)|assumption)
                          have q60 : ((rd x9_2 (ji50)) : Int) < ((x7_2.length : Int) : Int) := of_decide_eq_true (by first|(with_reducible assumption)|assumption)
                          obtain ⟨go60, co60, eo60, gb60, gl60, cl60, HG60⟩ := Kd.R_form HO_7.out (by omega)
                          (first|cases eo60|(injection eo60 with ea_ en_ ec_;(first|subst ea_|(injection ea_ with ea_;subst ea_));subst ec_;clear en_))
                          have GB60 := Aside0.mk gb60
                          have GG60 := Aside0.mk HG60
                          clear gb60 gl60 HG60
                          (first|simp only [add_plain] at hx126_0|skip)
                          (first|simp only [add_plain] at hx128_0|skip)
                          (first|simp only [add_plain] at hx129_0|skip)
                          obtain ⟨hx60_0, hf60_0⟩ := Kd.R_celln 0 HO_7.out ((rd x9_2 (ji50)) : Int) p60 q60
                          replace p60 := eq_true p60
                          replace q60 := eq_true q60
                          have HP74 := Kd.R_putn HO_7.out ((rd x9_2 (ji50)) : Int) (IntKind.u64.wrap ((rd x7_2 (rd x9_2 (ji50))) - (IntKind.u64.wrap (t102 - (rd x7_2 (rd x8_2 (ji47)))))))
                          rw [← Ny130.out] at HP74
                          have HQ74 := Aside0.mk HP74
                          clear HP74
                          refine start_ (n := 13) (S := fun w' => w'.cell? ⟨go60, ((rd x9_2 (ji50))).toNat, none⟩ = some (.int .u64 (rd x7_2 (rd x9_2 (ji50)))) ∧ w'.cell? ⟨go60, ((rd x8_2 (ji47))).toNat, none⟩ = some (.int .u64 (rd x7_2 (rd x8_2 (ji47))))) (ds := [12]) #[false, false, false, false, false, false, false, false, false, false, false, false, false] (by kernel_rfl) rfl rfl ⟨(by first|exact hx128_0|(have h := hx128_0; rw [add_plain] at h; exact h)|(have h := hx128_0; simp only [add_plain, Nat.zero_add] at h; exact h)), (by first|exact hx129_0|(have h := hx129_0; rw [add_plain] at h; exact h)|(have h := hx129_0; simp only [add_plain, Nat.zero_add] at h; exact h))⟩ (fun hHeld => ?_);refine with_tabW alias_Build.tab20 alias_Build.bits20 (fun HT_ HW_ => ?_)
                          generalize w72.drew = w73 at HO_7 HO125 HO_9 HO_108001 BK101 BK107 HB GG60 HQ71 HQ74 hf60_0 hx126_0 hx128_0 hx129_0 hx60_0 hHeld ⊢
                          refine pure_ (i := 0) (N := some 103) (v := ?_) (a' := ?_) #[true, false, false, false, false, false, false, false, false, false, false, false, false] rfl rfl (any_of HT_.out (by kernel_rfl)) (fun _ _ _ h => h) (Or.inl ⟨by rfl, ?_⟩) ?_ ?_
                          rotate_left
                          ·intro w'
                           go_simp
                           with_reducible rfl
                          rotate_left
                          ·simp only [Act.put, List.setIfInBounds_toArray, List.set_cons_zero, List.set_cons_succ, i64_w, i32_w]
                           rfl
                          refine pure_ (i := 1) (N := some 104) (v := ?_) (a' := ?_) #[true, true, false, false, false, false, false, false, false, false, false, false, false] rfl rfl (any_of HT_.out (by kernel_rfl)) (fun _ _ _ h => h) (Or.inl ⟨by rfl, ?_⟩) ?_ ?_
                          rotate_left
                          ·intro w'
                           go_simp
                           with_reducible rfl
                          rotate_left
                          ·simp only [Act.put, List.setIfInBounds_toArray, List.set_cons_zero, List.set_cons_succ, i64_w, i32_w]
                           rfl
                          refine pure_ (i := 2) (N := some 105) (v := ?_) (a' := ?_) #[true, true, true, false, false, false, false, false, false, false, false, false, false] rfl rfl (any_of HT_.out (by kernel_rfl)) (fun _ _ _ h => h) (Or.inl ⟨by rfl, ?_⟩) ?_ ?_
                          rotate_left
                          ·intro w'
                           go_simp
                           with_reducible rfl
                          rotate_left
                          ·simp only [Act.put, List.setIfInBounds_toArray, List.set_cons_zero, List.set_cons_succ, i64_w, i32_w]
                           rfl
                          refine pure_ (i := 4) (N := some 107) (v := ?_) (a' := ?_) #[true, true, true, false, true, false, false, false, false, false, false, false, false] rfl rfl (any_of HT_.out (by kernel_rfl)) (fun _ _ _ h => h) (Or.inl ⟨by rfl, ?_⟩) ?_ ?_
                          rotate_left
                          ·intro w'
                           go_simp
                           with_reducible rfl
                          rotate_left
                          ·simp only [Act.put, List.setIfInBounds_toArray, List.set_cons_zero, List.set_cons_succ, i64_w, i32_w]
                           rfl
                          refine pure_ (i := 5) (N := some 108) (v := ?_) (a' := ?_) #[true, true, true, false, true, true, false, false, false, false, false, false, false] rfl rfl (any_of HT_.out (by kernel_rfl)) (fun _ _ _ h => h) (Or.inl ⟨by rfl, ?_⟩) ?_ ?_
                          rotate_left
                          ·intro w'
                           go_simp
                           with_reducible rfl
                          rotate_left
                          ·simp only [Act.put, List.setIfInBounds_toArray, List.set_cons_zero, List.set_cons_succ, i64_w, i32_w]
                           rfl
                          refine pure_ (i := 6) (N := some 109) (v := ?_) (a' := ?_) #[true, true, true, false, true, true, true, false, false, false, false, false, false] rfl rfl (any_of HT_.out (by kernel_rfl)) (fun _ _ _ h => h) (Or.inl ⟨by rfl, ?_⟩) ?_ ?_
                          rotate_left
                          ·intro w'
                           go_simp
                           with_reducible rfl
                          rotate_left
                          ·simp only [Act.put, List.setIfInBounds_toArray, List.set_cons_zero, List.set_cons_succ, i64_w, i32_w]
                           rfl
                          refine pure_ (i := 7) (N := some 110) (v := ?_) (a' := ?_) #[true, true, true, false, true, true, true, true, false, false, false, false, false] rfl rfl (any_of HT_.out (by kernel_rfl)) (fun _ _ _ h => h) (Or.inl ⟨by rfl, ?_⟩) ?_ ?_
                          rotate_left
                          ·intro w'
                           go_simp
                           with_reducible rfl
                          rotate_left
                          ·simp only [Act.put, List.setIfInBounds_toArray, List.set_cons_zero, List.set_cons_succ, i64_w, i32_w]
                           rfl
                          refine take_ (i := 3) (N := some 106) (v := ?_) (a' := ?_) #[true, true, true, true, true, true, true, true, false, false, false, false, false] rfl rfl (take_ofW HT_.out HW_.out (by kernel_rfl)) (fun _ _ _ h => h) (Or.inl ⟨by rfl, ?_⟩) hHeld ?_ ?_
                          rotate_left
                          ·rintro w' ⟨s0, s1⟩
                           go_simp
                           with_reducible rfl
                          rotate_left
                          ·simp only [Act.put, List.setIfInBounds_toArray, List.set_cons_zero, List.set_cons_succ, i64_w, i32_w]
                           rfl
                          refine take_ (i := 8) (N := some 111) (v := ?_) (a' := ?_) #[true, true, true, true, true, true, true, true, true, false, false, false, false] rfl rfl (take_ofW HT_.out HW_.out (by kernel_rfl)) (fun _ _ _ h => h) (Or.inl ⟨by rfl, ?_⟩) hHeld ?_ ?_
                          rotate_left
                          ·rintro w' ⟨s0, s1⟩
                           go_simp
                           with_reducible rfl
                          rotate_left
                          ·simp only [Act.put, List.setIfInBounds_toArray, List.set_cons_zero, List.set_cons_succ, i64_w, i32_w]
                           rfl
                          refine pure_ (i := 9) (N := some 112) (v := ?_) (a' := ?_) #[true, true, true, true, true, true, true, true, true, true, false, false, false] rfl rfl (any_of HT_.out (by kernel_rfl)) (fun _ _ _ h => h) (Or.inl ⟨by rfl, ?_⟩) ?_ ?_
                          rotate_left
                          ·intro w'
                           go_simp
                           with_reducible rfl
                          rotate_left
                          ·simp only [Act.put, List.setIfInBounds_toArray, List.set_cons_zero, List.set_cons_succ, i64_w, i32_w]
                           rfl
                          refine pure_ (i := 10) (N := some 113) (v := ?_) (a' := ?_) #[true, true, true, true, true, true, true, true, true, true, true, false, false] rfl rfl (any_of HT_.out (by kernel_rfl)) (fun _ _ _ h => h) (Or.inl ⟨by rfl, ?_⟩) ?_ ?_
                          rotate_left
                          ·intro w'
                           go_simp
                           with_reducible rfl
                          rotate_left
                          ·simp only [Act.put, List.setIfInBounds_toArray, List.set_cons_zero, List.set_cons_succ, i64_w, i32_w]
                           rfl
                          refine pure_ (i := 11) (N := some 114) (v := ?_) (a' := ?_) #[true, true, true, true, true, true, true, true, true, true, true, true, false] rfl rfl (any_of HT_.out (by kernel_rfl)) (fun _ _ _ h => h) (Or.inl ⟨by rfl, ?_⟩) ?_ ?_
                          rotate_left
                          ·intro w'
                           go_simp
                           with_reducible rfl
                          rotate_left
                          ·simp only [Act.put, List.setIfInBounds_toArray, List.set_cons_zero, List.set_cons_succ, i64_w, i32_w]
                           rfl
                          refine last_ (i := 12) (N := none) #[true, true, true, true, true, true, true, true, true, true, true, true, true] rfl rfl (one_of HT_.out (by kernel_rfl)) (by decide) (fun K hK => ?_)
                          refine skip_ (w1 := ?_) (by rfl) rfl ?_ ?_
                          rotate_left
                          ·go_simp
                           rfl
                          refine hK.out _ _ ?_
                          clear hK K
                          refine done_ (done_of HT_.out (by kernel_rfl)) ?_
                          have n0_ : Aside0 (Kd.R (Kd.int .u64) 22 (w73.setCell ⟨go60, ((rd x9_2 (ji50)) : Int).toNat, none⟩ (.int .u64 (IntKind.u64.wrap ((rd x7_2 (rd x9_2 (ji50))) - (IntKind.u64.wrap (t102 - (rd x7_2 (rd x8_2 (ji47))))))))) w.heap.size (fun _ => True) (.slice (some ⟨go60, 0, none⟩) x7_2.length co70) y130) := ⟨by (with_reducible repeat (first|apply Kd.R_alloc|apply Kd.R_drewN|apply Kd.R_drew));exact HQ74.out⟩
                          have n1_ : Aside0 (Kd.R (Kd.int .i64) 3 (w73.setCell ⟨go60, ((rd x9_2 (ji50)) : Int).toNat, none⟩ (.int .u64 (IntKind.u64.wrap ((rd x7_2 (rd x9_2 (ji50))) - (IntKind.u64.wrap (t102 - (rd x7_2 (rd x8_2 (ji47))))))))) w.heap.size (fun k_ => some k_ ≠ (.slice (some ad122) x9_2.length co67 : Value).ownBlock) (.slice (some ad121) y123.length co66) y123) := ⟨by (with_reducible repeat (first|apply Kd.R_alloc|apply Kd.R_drewN|apply Kd.R_drew));exact Kd.R_mono (Kd.R_far (p := ⟨go60, ((rd x9_2 (ji50)) : Int).toNat, none⟩) (Kd.R_types HO125.out GG60.out (by decide)) (fun _ hk => hk.2) (.int .u64 (IntKind.u64.wrap ((rd x7_2 (rd x9_2 (ji50))) - (IntKind.u64.wrap (t102 - (rd x7_2 (rd x8_2 (ji47))))))))) (fun _ hk => hk.1)⟩
                          have n2_ : Aside0 (Kd.R (Kd.int .i64) 3 (w73.setCell ⟨go60, ((rd x9_2 (ji50)) : Int).toNat, none⟩ (.int .u64 (IntKind.u64.wrap ((rd x7_2 (rd x9_2 (ji50))) - (IntKind.u64.wrap (t102 - (rd x7_2 (rd x8_2 (ji47))))))))) w.heap.size (fun k_ => some k_ ≠ (.slice (some ad121) y123.length co66 : Value).ownBlock) (.slice (some ad122) x9_2.length co67) x9_2) := ⟨by (with_reducible repeat (first|apply Kd.R_alloc|apply Kd.R_drewN|apply Kd.R_drew));exact Kd.R_mono (Kd.R_far (p := ⟨go60, ((rd x9_2 (ji50)) : Int).toNat, none⟩) (Kd.R_types HO_9.out GG60.out (by decide)) (fun _ hk => hk.2) (.int .u64 (IntKind.u64.wrap ((rd x7_2 (rd x9_2 (ji50))) - (IntKind.u64.wrap (t102 - (rd x7_2 (rd x8_2 (ji47))))))))) (fun _ hk => hk.1)⟩
                          have n3_ : Aside0 (Kd.R k107 107 (w73.setCell ⟨go60, ((rd x9_2 (ji50)) : Int).toNat, none⟩ (.int .u64 (IntKind.u64.wrap ((rd x7_2 (rd x9_2 (ji50))) - (IntKind.u64.wrap (t102 - (rd x7_2 (rd x8_2 (ji47))))))))) w.heap.size (fun _ => True) (.slice (some ⟨go57, 0, none⟩) x108001_2.length co57) y127) := ⟨by (with_reducible repeat (first|apply Kd.R_alloc|apply Kd.R_drewN|apply Kd.R_drew));exact Kd.R_mono (Kd.R_far (p := ⟨go60, ((rd x9_2 (ji50)) : Int).toNat, none⟩) (Kd.R_types HO_108001.out GG60.out (by decide)) (fun _ hk => hk.2) (.int .u64 (IntKind.u64.wrap ((rd x7_2 (rd x9_2 (ji50))) - (IntKind.u64.wrap (t102 - (rd x7_2 (rd x8_2 (ji47))))))))) (fun _ hk => trivial)⟩
                          have n4_ : Aside0 ((w73.setCell ⟨go60, ((rd x9_2 (ji50)) : Int).toNat, none⟩ (.int .u64 (IntKind.u64.wrap ((rd x7_2 (rd x9_2 (ji50))) - (IntKind.u64.wrap (t102 - (rd x7_2 (rd x8_2 (ji47))))))))).heap[gb101]? = some (.cells #[.int .u64 0, .slice none 0 0] 53 (0, 0))) := ⟨by (with_reducible repeat (first|refine blk_drewN ?_ _|refine blk_drew ?_|refine blk_alloc ?_ _));refine blk_far ?_ (by have h_ := Kd.R_ne HO_7.out BK101.out (by decide);intro e_;exact h_ (by rw [e_];rfl)) _;(with_reducible repeat (first|refine blk_drewN ?_ _|refine blk_drew ?_|refine blk_alloc ?_ _));exact BK101.out⟩
                          have n5_ : Aside0 ((w73.setCell ⟨go60, ((rd x9_2 (ji50)) : Int).toNat, none⟩ (.int .u64 (IntKind.u64.wrap ((rd x7_2 (rd x9_2 (ji50))) - (IntKind.u64.wrap (t102 - (rd x7_2 (rd x8_2 (ji47))))))))).heap[gb107]? = some (.cells #[.int .u64 t102, .slice (some ⟨go57, 0, none⟩) x108001_2.length co57] 53 (0, 0))) := ⟨by (with_reducible repeat (first|refine blk_drewN ?_ _|refine blk_drew ?_|refine blk_alloc ?_ _));refine blk_far ?_ (by have h_ := Kd.R_ne HO_7.out BK107.out (by decide);intro e_;exact h_ (by rw [e_];rfl)) _;(with_reducible repeat (first|refine blk_drewN ?_ _|refine blk_drew ?_|refine blk_alloc ?_ _));exact BK107.out⟩
                          have n6_ : Aside0 (Below w.heap.size w (w73.setCell ⟨go60, ((rd x9_2 (ji50)) : Int).toNat, none⟩ (.int .u64 (IntKind.u64.wrap ((rd x7_2 (rd x9_2 (ji50))) - (IntKind.u64.wrap (t102 - (rd x7_2 (rd x8_2 (ji47)))))))))) := ⟨by repeat (first|(with_reducible first|exact HB.out|apply below_alloc|apply pw_below_drewN|apply below_drew1|refine below_set ?_ GB60.out|refine below_set ?_ GE101.out|refine below_set ?_ GE107.out)|exact HB.out)⟩
                          (try clear HO_7)
                          (try clear HO125)
                          (try clear HO_9)
                          (try clear HO_108001)
                          (try clear BK101)
                          (try clear BK107)
                          (try clear HB)
                          generalize (w73.setCell ⟨go60, ((rd x9_2 (ji50)) : Int).toNat, none⟩ (.int .u64 (IntKind.u64.wrap ((rd x7_2 (rd x9_2 (ji50))) - (IntKind.u64.wrap (t102 - (rd x7_2 (rd x8_2 (ji47))))))))) = w75 at n0_ n1_ n2_ n3_ n4_ n5_ n6_ ⊢
                          have HO_7 := n0_
                          have HO125 := n1_
                          have HO_9 := n2_
                          have HO_108001 := n3_
                          have BK101 := n4_
                          have BK107 := n5_
                          have HB := n6_
                          clear n0_ n1_ n2_ n3_ n4_ n5_ n6_
                          have p61 : 0 ≤ ((rd x9_2 (ji50)) : Int) := of_decide_eq_true (by first|(with_reducible assumption)|assumption)
                          have q61 : ((rd x9_2 (ji50)) : Int) < ((x7_2.length : Int) : Int) := of_decide_eq_true (by first|(with_reducible assumption)|assumption)
                          try (have hx61_0 := (Kd.R_celln 0 HO_7.out ((rd x9_2 (ji50)) : Int) p61 q61).1; rw [Ny130.out, set_own _ _ _ p61 q61] at hx61_0)
                          replace p61 := eq_true p61
                          replace q61 := eq_true q61
                          have q76 : ((ji50) : Int) ≤ ((x9_2.length : Int) : Int) := of_decide_eq_true (by first|(with_reducible assumption)|assumption)
                          obtain ⟨i076, hi076, _, hsz76, _⟩ := info_parts info3
                          have hcut76 := cut_to (P := Try.prog) 29 3 .i64 Try.underlying29 hi076 (some ad122) x9_2.length co67 (ji50) (of_decide_eq_true (by first|(with_reducible assumption)|assumption)) q76 (Kd.R_reads' HO_9.out).2.1
                          have hr76 := Kd.R_take (m := ((ji50) : Int).toNat) HO_9.out (by omega)
                          have hy76 : y132.length = ((ji50) : Int).toNat := (by rw [Ny132.out, List.length_take];omega)
                          rw [← Ny132.out] at hr76
                          rw [← hy76] at hr76 hcut76
                          clear hy76 hi076 hsz76 HO_9
                          have HO134 := Aside0.mk hr76
                          clear hr76
                          replace q76 := eq_true q76
                          try go_wp2_with (first|((with_reducible refine gate_builtin (b := .append) (xs := #[.tmp 126, .tmp 128]) rfl ?_);(try (refine gate_guard (by rfl) ?_;dsimp only));at_builtin;refine Kd.R_append (Kd.int .i64) (w0 := w) w.heap.size rfl (.tmp 126) (.tmp 128) 29 3 (.int .i64 0) 8 rfl Try.underlying29 info3 rfl (by decide) (by omega) (.slice (some ad121) y123.length co66) y123 (rd x9_2 (ji50)) [.int .i64 (rd x9_2 (ji50))] (fun k_ => some k_ ≠ (.slice (some ad122) y132.length co67 : Value).ownBlock) (fun _ => False) rfl rfl ?aP (fun _ hk => hk.elim) ?aF ?aO ?aB ?aS ?aL ?_;(case aP => exact rfl);(case aB => exact (by repeat (first|(with_reducible first|exact HB.out|apply below_alloc|apply pw_below_drewN|apply below_drew1|refine below_set ?_ GE101.out|refine below_set ?_ GE107.out)|exact HB.out)));(case aF => exact (fun k_ hk => Kd.fresh' (Kd.R_lt (by (with_reducible repeat (first|apply Kd.R_alloc|apply Kd.R_drewN|apply Kd.R_drew));exact HO134.out)) k_ hk));(case aO => exact (by (with_reducible repeat (first|apply Kd.R_alloc|apply Kd.R_drewN|apply Kd.R_drew));exact HO125.out));(case aS => exact (below_size (by repeat (first|(with_reducible first|exact HB.out|apply below_alloc|apply pw_below_drewN|apply below_drew1|refine below_set ?_ GE101.out|refine below_set ?_ GE107.out)|exact HB.out))));(case aL => have := LMc64.out;omega);intro v136 w77 ho hb hg hat;rw [← Ny135.out] at ho;have n0_ := Aside0.mk (Kd.R_over' (by (with_reducible repeat (first|apply Kd.R_alloc|apply Kd.R_drewN|apply Kd.R_drew));exact HO_7.out) (Kd.R_typed (by (with_reducible repeat (first|apply Kd.R_alloc|apply Kd.R_drewN|apply Kd.R_drew));exact HO125.out)) (by decide) hg);have n1_ := Aside0.mk (Kd.R_after (ok := (fun _ => True)) (by (with_reducible repeat (first|apply Kd.R_alloc|apply Kd.R_drewN|apply Kd.R_drew));exact Kd.R_mono HO134.out (fun _ hk => ⟨trivial, hk⟩)) hg hat);have n2_ := Aside0.mk (Kd.R_over' (by (with_reducible repeat (first|apply Kd.R_alloc|apply Kd.R_drewN|apply Kd.R_drew));exact HO_108001.out) (Kd.R_typed (by (with_reducible repeat (first|apply Kd.R_alloc|apply Kd.R_drewN|apply Kd.R_drew));exact HO125.out)) (by decide) hg);have n3_ := Aside0.mk (blk_grown (g := gb101) (o := .cells #[.int .u64 0, .slice none 0 0] 53 (0, 0)) (by (with_reducible repeat (first|refine blk_drewN ?_ _|refine blk_drew ?_|refine blk_alloc ?_ _));exact BK101.out) hg (Kd.R_ne HO125.out BK101.out (by decide)));have n4_ := Aside0.mk (blk_grown (g := gb107) (o := .cells #[.int .u64 t102, .slice (some ⟨go57, 0, none⟩) x108001_2.length co57] 53 (0, 0)) (by (with_reducible repeat (first|refine blk_drewN ?_ _|refine blk_drew ?_|refine blk_alloc ?_ _));exact BK107.out) hg (Kd.R_ne HO125.out BK107.out (by decide)));have n5_ := Aside0.mk (hb);have n6_ := Aside0.mk (ho);clear HO_7;clear HO134;clear HO_108001;clear BK101;clear BK107;clear HB;clear HO125;have HO_7 := n0_;have HO134 := n1_;have HO_108001 := n2_;have BK101 := n3_;have BK107 := n4_;have HB := n5_;have HO137 := n6_;clear n0_ n1_ n2_ n3_ n4_ n5_ n6_;clear ho hb hg hat))
                          go_roundg kj40
                          case measure => have := HK1.out;have := HK2.out;have := HJ40.out;omega
                          case rel => exact ⟨(y130), (y135), (y132), (y127), (.slice (some ⟨go57, 0, none⟩) x108001_2.length co57), H', ⟨by have := HK1.out;have := HK2.out;have := HJ40.out;omega⟩, ⟨by (with_reducible repeat (first|apply Kd.R_alloc|apply Kd.R_drewN|apply Kd.R_drew));exact HO_7.out⟩, ⟨by (with_reducible repeat (first|apply Kd.R_alloc|apply Kd.R_drewN|apply Kd.R_drew));exact HO137.out⟩, ⟨by (with_reducible repeat (first|apply Kd.R_alloc|apply Kd.R_drewN|apply Kd.R_drew));exact Kd.R_mono HO134.out (fun _ hk => hk.2)⟩, ⟨by (with_reducible repeat (first|apply Kd.R_alloc|apply Kd.R_drewN|apply Kd.R_drew));exact HO_108001.out⟩, ⟨by (with_reducible repeat (first|refine blk_drewN ?_ _|refine blk_drew ?_|refine blk_alloc ?_ _));exact BK101.out⟩, ⟨by (with_reducible repeat (first|refine blk_drewN ?_ _|refine blk_drew ?_|refine blk_alloc ?_ _));exact BK107.out⟩, ⟨by repeat (first|(with_reducible first|exact HB.out|apply below_alloc|apply pw_below_drewN|apply below_drew1|refine below_set ?_ GE101.out|refine below_set ?_ GE107.out)|exact HB.out)⟩⟩
                         ·rw [if_neg c64] at H
                          exact absurd H (by simp)
                        ·rw [if_neg c63] at H
                         exact absurd H (by simp)
                       ·rw [if_neg c62] at H
                        have c62b0 : decide ((IntKind.u64.wrap ((rd x7_2 (rd x9_2 (ji50))) - (IntKind.u64.wrap (t102 - (rd x7_2 (rd x8_2 (ji47))))))) < t102) = false := decide_eq_false c62
                        clear c62
                        have H' := Aside0.mk H
                        clear H
                        try go_wp2
                        have n0_ := Aside0.mk (Kd.R_drew HO_7.out)
                        have n1_ := Aside0.mk (Kd.R_drew HO_8.out)
                        have n2_ := Aside0.mk (Kd.R_drew HO_9.out)
                        have n3_ := Aside0.mk (Kd.R_drew HO_108001.out)
                        have n4_ := Aside0.mk (blk_drew BK101.out)
                        have n5_ := Aside0.mk (blk_drew BK107.out)
                        have n6_ := Aside0.mk (below_drew1 HB.out)
                        clear HO_7
                        clear HO_8
                        clear HO_9
                        clear HO_108001
                        clear BK101
                        clear BK107
                        clear HB
                        have HO_7 := n0_
                        have HO_8 := n1_
                        have HO_9 := n2_
                        have HO_108001 := n3_
                        have BK101 := n4_
                        have BK107 := n5_
                        have HB := n6_
                        clear n0_ n1_ n2_ n3_ n4_ n5_ n6_
                        obtain ⟨Ao79, co79, eo79⟩ := Kd.R_slice HO_8.out
                        (first|subst eo79|(injection eo79 with f1_ f2_ f3_;have f4_ := f1_.symm;have f5_ := f3_.symm;clear f1_ f2_ f3_;subst f4_;subst f5_))
                        have p121 : 0 ≤ ((ji47) : Int) := of_decide_eq_true (by first|(with_reducible assumption)|assumption)
                        have q121 : (ji47) < (x8_2.length : Int) := of_decide_eq_true (by first|(with_reducible assumption)|assumption)
                        obtain ⟨ad121, e121, hx121_0⟩ := Kd.at_int (Kd.R_reads' HO_8.out).2.2 (ji47) p121 q121
                        cases e121
                        replace p121 := eq_true p121
                        replace q121 := eq_true q121
                        obtain ⟨Ao80, co80, eo80⟩ := Kd.R_slice HO_9.out
                        (first|subst eo80|(injection eo80 with f1_ f2_ f3_;have f4_ := f1_.symm;have f5_ := f3_.symm;clear f1_ f2_ f3_;subst f4_;subst f5_))
                        have p122 : 0 ≤ ((ji50) : Int) := of_decide_eq_true (by first|(with_reducible assumption)|assumption)
                        have q122 : (ji50) < (x9_2.length : Int) := of_decide_eq_true (by first|(with_reducible assumption)|assumption)
                        obtain ⟨ad122, e122, hx122_0⟩ := Kd.at_int (Kd.R_reads' HO_9.out).2.2 (ji50) p122 q122
                        cases e122
                        replace p122 := eq_true p122
                        replace q122 := eq_true q122
                        refine start_ (n := 14) (S := fun w' => w'.cell? (ad121.add ((ji47)).toNat) = some (.int .i64 (rd x8_2 (ji47))) ∧ w'.cell? (ad122.add ((ji50)).toNat) = some (.int .i64 (rd x9_2 (ji50)))) (ds := []) #[false, false, false, false, false, false, false, false, false, false, false, false, false, false] (by kernel_rfl) rfl rfl ⟨hx121_0, hx122_0⟩ (fun hHeld => ?_);refine with_tabW alias_Build.tab17 alias_Build.bits17 (fun HT_ HW_ => ?_)
                        generalize wc.drew = w78 at HO_7 HO_8 HO_9 HO_108001 BK101 BK107 HB hx121_0 hx122_0 hHeld ⊢
                        refine pure_ (i := 0) (N := some 76) (v := ?_) (a' := ?_) #[true, false, false, false, false, false, false, false, false, false, false, false, false, false] rfl rfl (any_of HT_.out (by kernel_rfl)) (fun _ _ _ h => h) (Or.inl ⟨by rfl, ?_⟩) ?_ ?_
                        rotate_left
                        ·intro w'
                         go_simp
                         with_reducible rfl
                        rotate_left
                        ·simp only [Act.put, List.setIfInBounds_toArray, List.set_cons_zero, List.set_cons_succ, i64_w, i32_w]
                         rfl
                        refine pure_ (i := 1) (N := some 77) (v := ?_) (a' := ?_) #[true, true, false, false, false, false, false, false, false, false, false, false, false, false] rfl rfl (any_of HT_.out (by kernel_rfl)) (fun _ _ _ h => h) (Or.inl ⟨by rfl, ?_⟩) ?_ ?_
                        rotate_left
                        ·intro w'
                         go_simp
                         with_reducible rfl
                        rotate_left
                        ·simp only [Act.put, List.setIfInBounds_toArray, List.set_cons_zero, List.set_cons_succ, i64_w, i32_w]
                         rfl
                        refine pure_ (i := 2) (N := some 78) (v := ?_) (a' := ?_) #[true, true, true, false, false, false, false, false, false, false, false, false, false, false] rfl rfl (any_of HT_.out (by kernel_rfl)) (fun _ _ _ h => h) (Or.inl ⟨by rfl, ?_⟩) ?_ ?_
                        rotate_left
                        ·intro w'
                         go_simp
                         with_reducible rfl
                        rotate_left
                        ·simp only [Act.put, List.setIfInBounds_toArray, List.set_cons_zero, List.set_cons_succ, i64_w, i32_w]
                         rfl
                        refine pure_ (i := 3) (N := some 79) (v := ?_) (a' := ?_) #[true, true, true, true, false, false, false, false, false, false, false, false, false, false] rfl rfl (any_of HT_.out (by kernel_rfl)) (fun _ _ _ h => h) (Or.inl ⟨by rfl, ?_⟩) ?_ ?_
                        rotate_left
                        ·intro w'
                         go_simp
                         with_reducible rfl
                        rotate_left
                        ·simp only [Act.put, List.setIfInBounds_toArray, List.set_cons_zero, List.set_cons_succ, i64_w, i32_w]
                         rfl
                        refine pure_ (i := 4) (N := some 80) (v := ?_) (a' := ?_) #[true, true, true, true, true, false, false, false, false, false, false, false, false, false] rfl rfl (any_of HT_.out (by kernel_rfl)) (fun _ _ _ h => h) (Or.inl ⟨by rfl, ?_⟩) ?_ ?_
                        rotate_left
                        ·intro w'
                         go_simp
                         with_reducible rfl
                        rotate_left
                        ·simp only [Act.put, List.setIfInBounds_toArray, List.set_cons_zero, List.set_cons_succ, i64_w, i32_w]
                         rfl
                        refine pure_ (i := 6) (N := some 82) (v := ?_) (a' := ?_) #[true, true, true, true, true, false, true, false, false, false, false, false, false, false] rfl rfl (any_of HT_.out (by kernel_rfl)) (fun _ _ _ h => h) (Or.inl ⟨by rfl, ?_⟩) ?_ ?_
                        rotate_left
                        ·intro w'
                         go_simp
                         with_reducible rfl
                        rotate_left
                        ·simp only [Act.put, List.setIfInBounds_toArray, List.set_cons_zero, List.set_cons_succ, i64_w, i32_w]
                         rfl
                        refine pure_ (i := 7) (N := some 83) (v := ?_) (a' := ?_) #[true, true, true, true, true, false, true, true, false, false, false, false, false, false] rfl rfl (any_of HT_.out (by kernel_rfl)) (fun _ _ _ h => h) (Or.inl ⟨by rfl, ?_⟩) ?_ ?_
                        rotate_left
                        ·intro w'
                         go_simp
                         with_reducible rfl
                        rotate_left
                        ·simp only [Act.put, List.setIfInBounds_toArray, List.set_cons_zero, List.set_cons_succ, i64_w, i32_w]
                         rfl
                        refine pure_ (i := 8) (N := some 84) (v := ?_) (a' := ?_) #[true, true, true, true, true, false, true, true, true, false, false, false, false, false] rfl rfl (any_of HT_.out (by kernel_rfl)) (fun _ _ _ h => h) (Or.inl ⟨by rfl, ?_⟩) ?_ ?_
                        rotate_left
                        ·intro w'
                         go_simp
                         with_reducible rfl
                        rotate_left
                        ·simp only [Act.put, List.setIfInBounds_toArray, List.set_cons_zero, List.set_cons_succ, i64_w, i32_w]
                         rfl
                        refine pure_ (i := 9) (N := some 85) (v := ?_) (a' := ?_) #[true, true, true, true, true, false, true, true, true, true, false, false, false, false] rfl rfl (any_of HT_.out (by kernel_rfl)) (fun _ _ _ h => h) (Or.inl ⟨by rfl, ?_⟩) ?_ ?_
                        rotate_left
                        ·intro w'
                         go_simp
                         with_reducible rfl
                        rotate_left
                        ·simp only [Act.put, List.setIfInBounds_toArray, List.set_cons_zero, List.set_cons_succ, i64_w, i32_w]
                         rfl
                        refine pure_ (i := 10) (N := some 86) (v := ?_) (a' := ?_) #[true, true, true, true, true, false, true, true, true, true, true, false, false, false] rfl rfl (any_of HT_.out (by kernel_rfl)) (fun _ _ _ h => h) (Or.inl ⟨by rfl, ?_⟩) ?_ ?_
                        rotate_left
                        ·intro w'
                         go_simp
                         with_reducible rfl
                        rotate_left
                        ·simp only [Act.put, List.setIfInBounds_toArray, List.set_cons_zero, List.set_cons_succ, i64_w, i32_w]
                         rfl
                        refine take_ (i := 5) (N := some 81) (v := ?_) (a' := ?_) #[true, true, true, true, true, true, true, true, true, true, true, false, false, false] rfl rfl (take_ofW HT_.out HW_.out (by kernel_rfl)) (fun _ _ _ h => h) (Or.inl ⟨by rfl, ?_⟩) hHeld ?_ ?_
                        rotate_left
                        ·rintro w' ⟨s0, s1⟩
                         go_simp
                         with_reducible rfl
                        rotate_left
                        ·simp only [Act.put, List.setIfInBounds_toArray, List.set_cons_zero, List.set_cons_succ, i64_w, i32_w]
                         rfl
                        refine pure_ (i := 12) (N := some 12) (v := ?_) (a' := ?_) #[true, true, true, true, true, true, true, true, true, true, true, false, true, false] rfl rfl (any_of HT_.out (by kernel_rfl)) (fun _ _ _ h => h) (Or.inl ⟨by rfl, ?_⟩) ?_ ?_
                        rotate_left
                        ·intro w'
                         go_simp
                         with_reducible rfl
                        rotate_left
                        ·simp only [Act.put, List.setIfInBounds_toArray, List.set_cons_zero, List.set_cons_succ, i64_w, i32_w]
                         rfl
                        refine take_ (i := 11) (N := some 87) (v := ?_) (a' := ?_) #[true, true, true, true, true, true, true, true, true, true, true, true, true, false] rfl rfl (take_ofW HT_.out HW_.out (by kernel_rfl)) (fun _ _ _ h => h) (Or.inl ⟨by rfl, ?_⟩) hHeld ?_ ?_
                        rotate_left
                        ·rintro w' ⟨s0, s1⟩
                         go_simp
                         with_reducible rfl
                        rotate_left
                        ·simp only [Act.put, List.setIfInBounds_toArray, List.set_cons_zero, List.set_cons_succ, i64_w, i32_w]
                         rfl
                        refine pure_ (i := 13) (N := some 13) (v := ?_) (a' := ?_) #[true, true, true, true, true, true, true, true, true, true, true, true, true, true] rfl rfl (any_of HT_.out (by kernel_rfl)) (fun _ _ _ h => h) (Or.inl ⟨by rfl, ?_⟩) ?_ ?_
                        rotate_left
                        ·intro w'
                         go_simp
                         with_reducible rfl
                        rotate_left
                        ·simp only [Act.put, List.setIfInBounds_toArray, List.set_cons_zero, List.set_cons_succ, i64_w, i32_w]
                         rfl
                        refine done_ (done_of HT_.out (by kernel_rfl)) ?_
                        have q81 : ((ji47) : Int) ≤ ((x8_2.length : Int) : Int) := of_decide_eq_true (by first|(with_reducible assumption)|assumption)
                        obtain ⟨i081, hi081, _, hsz81, _⟩ := info_parts info3
                        have hcut81 := cut_to (P := Try.prog) 29 3 .i64 Try.underlying29 hi081 (some ad121) x8_2.length co79 (ji47) (of_decide_eq_true (by first|(with_reducible assumption)|assumption)) q81 (Kd.R_reads' HO_8.out).2.1
                        have hr81 := Kd.R_take (m := ((ji47) : Int).toNat) HO_8.out (by omega)
                        have hy81 : y123.length = ((ji47) : Int).toNat := (by rw [Ny123.out, List.length_take];omega)
                        rw [← Ny123.out] at hr81
                        rw [← hy81] at hr81 hcut81
                        clear hy81 hi081 hsz81 HO_8
                        have HO125 := Aside0.mk hr81
                        clear hr81
                        replace q81 := eq_true q81
                        try go_wp2
                        have n0_ := Aside0.mk (Kd.R_drew HO_7.out)
                        have n1_ := Aside0.mk (Kd.R_drew HO125.out)
                        have n2_ := Aside0.mk (Kd.R_drew HO_9.out)
                        have n3_ := Aside0.mk (Kd.R_drew HO_108001.out)
                        have n4_ := Aside0.mk (blk_drew BK101.out)
                        have n5_ := Aside0.mk (blk_drew BK107.out)
                        have n6_ := Aside0.mk (below_drew1 HB.out)
                        clear HO_7
                        clear HO125
                        clear HO_9
                        clear HO_108001
                        clear BK101
                        clear BK107
                        clear HB
                        have HO_7 := n0_
                        have HO125 := n1_
                        have HO_9 := n2_
                        have HO_108001 := n3_
                        have BK101 := n4_
                        have BK107 := n5_
                        have HB := n6_
                        clear n0_ n1_ n2_ n3_ n4_ n5_ n6_
                        obtain ⟨Ao83, co83, eo83⟩ := Kd.R_slice HO_7.out
                        (first|subst eo83|(injection eo83 with f1_ f2_ f3_;have f4_ := f1_.symm;have f5_ := f3_.symm;clear f1_ f2_ f3_;subst f4_;subst f5_))
                        have p126 : 0 ≤ ((rd x8_2 (ji47)) : Int) := of_decide_eq_true (by first|(with_reducible assumption)|assumption)
                        have q126 : (rd x8_2 (ji47)) < (x7_2.length : Int) := of_decide_eq_true (by first|(with_reducible assumption)|assumption)
                        obtain ⟨ad126, e126, hx126_0⟩ := Kd.at_int (Kd.R_reads' HO_7.out).2.2 (rd x8_2 (ji47)) p126 q126
                        cases e126
                        replace p126 := eq_true p126
                        replace q126 := eq_true q126
                        have p57 : 0 ≤ ((rd x8_2 (ji47)) : Int) := of_decide_eq_true (by first|(with_reducible assumption)|assumption)
                        have q57 : ((rd x8_2 (ji47)) : Int) < ((x108001_2.length : Int) : Int) := of_decide_eq_true (by first|(with_reducible assumption)|assumption)
                        obtain ⟨go57, co57, eo57, gb57, gl57, cl57, HG57⟩ := Kd.R_form HO_108001.out (by omega)
                        (first|cases eo57|(injection eo57 with ea_ en_ ec_;(first|subst ea_|(injection ea_ with ea_;subst ea_));subst ec_;clear en_))
                        have GB57 := Aside0.mk gb57
                        have GG57 := Aside0.mk HG57
                        clear gb57 gl57 HG57
                        obtain ⟨ce57, hcl57, hM57, hcc57, hfr57⟩ := Kd.R_elem HO_108001.out z107 ((rd x8_2 (ji47)) : Int) p57 q57
                        obtain rfl := k107_openM hM57
                        have hx57_0 : World.cell? _ ⟨go57, ((rd x8_2 (ji47)) : Int).toNat * 2, none⟩ = some (.int .u64 ((rd_T107 x108001_2 (rd x8_2 (ji47))).f0)) := hcc57 0 _ rfl
                        have hx57_1 : World.cell? _ ⟨go57, ((rd x8_2 (ji47)) : Int).toNat * 2 + 1, none⟩ = some (.int .i64 ((rd_T107 x108001_2 (rd x8_2 (ji47))).f1)) := hcc57 1 _ rfl
                        have hf57_0 : World.frozen? _ ⟨go57, ((rd x8_2 (ji47)) : Int).toNat * 2, none⟩ = false := hfr57 0
                        have hf57_1 : World.frozen? _ ⟨go57, ((rd x8_2 (ji47)) : Int).toNat * 2 + 1, none⟩ = false := hfr57 1
                        clear hcl57 hcc57 hfr57 hM57
                        replace p57 := eq_true p57
                        replace q57 := eq_true q57
                        obtain ⟨ce84, hcl84, hM84, hcc84, hfr84⟩ := Kd.R_elem HO_108001.out z107 ((rd x8_2 (ji47)) : Int) (of_decide_eq_true (by first|(with_reducible assumption)|assumption)) (by have h_ : ((rd x8_2 (ji47)) : Int) < ((x108001_2.length : Int) : Int) := of_decide_eq_true (by first|(with_reducible assumption)|assumption);first|exact h_|(have e_ := (Kd.R_reads' HO_108001.out).1;omega)|simpa using h_)
                        obtain rfl := k107_openM hM84
                        have HP84 := (Kd.R_seg HO_108001.out ((rd x8_2 (ji47)) : Int) (of_decide_eq_true (by first|(with_reducible assumption)|assumption)) (by have h_ : ((rd x8_2 (ji47)) : Int) < ((x108001_2.length : Int) : Int) := of_decide_eq_true (by first|(with_reducible assumption)|assumption);first|exact h_|(have e_ := (Kd.R_reads' HO_108001.out).1;omega)|simpa using h_) (seg := [.int .u64 (rd x7_2 (rd x8_2 (ji47))), .int .i64 (rd x9_2 (ji50))]) (j := 0) hcl84 hcc84 (show 2 ≤ 2 from by decide) (x' := (⟨rd x7_2 (rd x8_2 (ji47)), rd x9_2 (ji50)⟩ : S107)) (k107_mkM _ _ _ (⟨rd x7_2 (rd x8_2 (ji47)), rd x9_2 (ji50)⟩ : S107) ) (fun _ hk => hk)).1
                        rw [← Ny127.out] at HP84
                        have HQ84 := Aside0.mk HP84
                        clear hcl84 hcc84 hfr84 hM84 HP84
                        refine start_ (n := 11) (S := fun w' => w'.cell? ⟨gb107, 0, none⟩ = some (.int .u64 t102) ∧ w'.cell? ⟨gb107, 1, none⟩ = some (.slice (some ⟨go57, 0, none⟩) x108001_2.length co57) ∧ w'.cell? (ad126.add ((rd x8_2 (ji47))).toNat) = some (.int .u64 (rd x7_2 (rd x8_2 (ji47))))) (ds := [10]) #[false, false, false, false, false, false, false, false, false, false, false] (by kernel_rfl) rfl rfl ⟨(blk_cell BK107.out 0).trans rfl, (blk_cell BK107.out 1).trans rfl, hx126_0⟩ (fun hHeld => ?_);refine with_tabW alias_Build.tab19 alias_Build.bits19 (fun HT_ HW_ => ?_)
                        generalize w78.drew = w82 at HO_7 HO125 HO_9 HO_108001 BK101 BK107 HB GG57 HQ84 hf57_0 hf57_1 hx126_0 hx57_0 hx57_1 hHeld ⊢
                        refine pure_ (i := 0) (N := some 93) (v := ?_) (a' := ?_) #[true, false, false, false, false, false, false, false, false, false, false] rfl rfl (any_of HT_.out (by kernel_rfl)) (fun _ _ _ h => h) (Or.inl ⟨by rfl, ?_⟩) ?_ ?_
                        rotate_left
                        ·intro w'
                         go_simp
                         with_reducible rfl
                        rotate_left
                        ·simp only [Act.put, List.setIfInBounds_toArray, List.set_cons_zero, List.set_cons_succ, i64_w, i32_w]
                         rfl
                        refine pure_ (i := 2) (N := some 95) (v := ?_) (a' := ?_) #[true, false, true, false, false, false, false, false, false, false, false] rfl rfl (any_of HT_.out (by kernel_rfl)) (fun _ _ _ h => h) (Or.inl ⟨by rfl, ?_⟩) ?_ ?_
                        rotate_left
                        ·intro w'
                         go_simp
                         with_reducible rfl
                        rotate_left
                        ·simp only [Act.put, List.setIfInBounds_toArray, List.set_cons_zero, List.set_cons_succ, i64_w, i32_w]
                         rfl
                        refine pure_ (i := 3) (N := some 96) (v := ?_) (a' := ?_) #[true, false, true, true, false, false, false, false, false, false, false] rfl rfl (any_of HT_.out (by kernel_rfl)) (fun _ _ _ h => h) (Or.inl ⟨by rfl, ?_⟩) ?_ ?_
                        rotate_left
                        ·intro w'
                         go_simp
                         with_reducible rfl
                        rotate_left
                        ·simp only [Act.put, List.setIfInBounds_toArray, List.set_cons_zero, List.set_cons_succ, i64_w, i32_w]
                         rfl
                        refine pure_ (i := 4) (N := some 97) (v := ?_) (a' := ?_) #[true, false, true, true, true, false, false, false, false, false, false] rfl rfl (any_of HT_.out (by kernel_rfl)) (fun _ _ _ h => h) (Or.inl ⟨by rfl, ?_⟩) ?_ ?_
                        rotate_left
                        ·intro w'
                         go_simp
                         with_reducible rfl
                        rotate_left
                        ·simp only [Act.put, List.setIfInBounds_toArray, List.set_cons_zero, List.set_cons_succ, i64_w, i32_w]
                         rfl
                        refine pure_ (i := 5) (N := some 98) (v := ?_) (a' := ?_) #[true, false, true, true, true, true, false, false, false, false, false] rfl rfl (any_of HT_.out (by kernel_rfl)) (fun _ _ _ h => h) (Or.inl ⟨by rfl, ?_⟩) ?_ ?_
                        rotate_left
                        ·intro w'
                         go_simp
                         with_reducible rfl
                        rotate_left
                        ·simp only [Act.put, List.setIfInBounds_toArray, List.set_cons_zero, List.set_cons_succ, i64_w, i32_w]
                         rfl
                        refine pure_ (i := 7) (N := some 100) (v := ?_) (a' := ?_) #[true, false, true, true, true, true, false, true, false, false, false] rfl rfl (any_of HT_.out (by kernel_rfl)) (fun _ _ _ h => h) (Or.inl ⟨by rfl, ?_⟩) ?_ ?_
                        rotate_left
                        ·intro w'
                         go_simp
                         with_reducible rfl
                        rotate_left
                        ·simp only [Act.put, List.setIfInBounds_toArray, List.set_cons_zero, List.set_cons_succ, i64_w, i32_w]
                         rfl
                        refine take_ (i := 1) (N := some 94) (v := ?_) (a' := ?_) #[true, true, true, true, true, true, false, true, false, false, false] rfl rfl (take_ofW HT_.out HW_.out (by kernel_rfl)) (fun _ _ _ h => h) (Or.inl ⟨by rfl, ?_⟩) hHeld ?_ ?_
                        rotate_left
                        ·rintro w' ⟨s0, s1, s2⟩
                         go_simp
                         with_reducible rfl
                        rotate_left
                        ·simp only [Act.put, List.setIfInBounds_toArray, List.set_cons_zero, List.set_cons_succ, i64_w, i32_w]
                         rfl
                        refine take_ (i := 6) (N := some 99) (v := ?_) (a' := ?_) #[true, true, true, true, true, true, true, true, false, false, false] rfl rfl (take_ofW HT_.out HW_.out (by kernel_rfl)) (fun _ _ _ h => h) (Or.inl ⟨by rfl, ?_⟩) hHeld ?_ ?_
                        rotate_left
                        ·rintro w' ⟨s0, s1, s2⟩
                         go_simp
                         with_reducible rfl
                        rotate_left
                        ·simp only [Act.put, List.setIfInBounds_toArray, List.set_cons_zero, List.set_cons_succ, i64_w, i32_w]
                         rfl
                        refine pure_ (i := 8) (N := some 101) (v := ?_) (a' := ?_) #[true, true, true, true, true, true, true, true, true, false, false] rfl rfl (any_of HT_.out (by kernel_rfl)) (fun _ _ _ h => h) (Or.inl ⟨by rfl, ?_⟩) ?_ ?_
                        rotate_left
                        ·intro w'
                         go_simp
                         with_reducible rfl
                        rotate_left
                        ·simp only [Act.put, List.setIfInBounds_toArray, List.set_cons_zero, List.set_cons_succ, i64_w, i32_w]
                         rfl
                        refine pure_ (i := 9) (N := some 102) (v := ?_) (a' := ?_) #[true, true, true, true, true, true, true, true, true, true, false] rfl rfl (any_of HT_.out (by kernel_rfl)) (fun _ _ _ h => h) (Or.inl ⟨by rfl, ?_⟩) ?_ ?_
                        rotate_left
                        ·intro w'
                         go_simp
                         with_reducible rfl
                        rotate_left
                        ·simp only [Act.put, List.setIfInBounds_toArray, List.set_cons_zero, List.set_cons_succ, i64_w, i32_w]
                         rfl
                        refine last_ (i := 10) (N := none) #[true, true, true, true, true, true, true, true, true, true, true] rfl rfl (one_of HT_.out (by kernel_rfl)) (by decide) (fun K hK => ?_)
                        refine skip_ (w1 := ?_) (by rfl) rfl ?_ ?_
                        rotate_left
                        ·go_simp
                         rfl
                        refine hK.out _ _ ?_
                        clear hK K
                        refine done_ (done_of HT_.out (by kernel_rfl)) ?_
                        try go_wp2
                        have n0_ : Aside0 (Kd.R (Kd.int .u64) 22 ((w82.setCell ⟨go57, ((rd x8_2 (ji47)) : Int).toNat * 2, none⟩ (.int .u64 (rd x7_2 (rd x8_2 (ji47))))).setCell ⟨go57, ((rd x8_2 (ji47)) : Int).toNat * 2 + 1, none⟩ (.int .i64 (rd x9_2 (ji50)))) w.heap.size (fun _ => True) (.slice (some ad126) x7_2.length co83) x7_2) := ⟨by (with_reducible repeat (first|apply Kd.R_alloc|apply Kd.R_drewN|apply Kd.R_drew));exact Kd.R_mono (Kd.R_far (p := ⟨go57, ((rd x8_2 (ji47)) : Int).toNat * 2 + 1, none⟩) (Kd.R_far (p := ⟨go57, ((rd x8_2 (ji47)) : Int).toNat * 2, none⟩) (Kd.R_types HO_7.out GG57.out (by decide)) (fun _ hk => hk.2) (.int .u64 (rd x7_2 (rd x8_2 (ji47))))) (fun _ hk => hk.2) (.int .i64 (rd x9_2 (ji50)))) (fun _ hk => trivial)⟩
                        have n1_ : Aside0 (Kd.R (Kd.int .i64) 3 ((w82.setCell ⟨go57, ((rd x8_2 (ji47)) : Int).toNat * 2, none⟩ (.int .u64 (rd x7_2 (rd x8_2 (ji47))))).setCell ⟨go57, ((rd x8_2 (ji47)) : Int).toNat * 2 + 1, none⟩ (.int .i64 (rd x9_2 (ji50)))) w.heap.size (fun k_ => some k_ ≠ (.slice (some ad122) x9_2.length co80 : Value).ownBlock) (.slice (some ad121) y123.length co79) y123) := ⟨by (with_reducible repeat (first|apply Kd.R_alloc|apply Kd.R_drewN|apply Kd.R_drew));exact Kd.R_mono (Kd.R_far (p := ⟨go57, ((rd x8_2 (ji47)) : Int).toNat * 2 + 1, none⟩) (Kd.R_far (p := ⟨go57, ((rd x8_2 (ji47)) : Int).toNat * 2, none⟩) (Kd.R_types HO125.out GG57.out (by decide)) (fun _ hk => hk.2) (.int .u64 (rd x7_2 (rd x8_2 (ji47))))) (fun _ hk => hk.2) (.int .i64 (rd x9_2 (ji50)))) (fun _ hk => hk.1)⟩
                        have n2_ : Aside0 (Kd.R (Kd.int .i64) 3 ((w82.setCell ⟨go57, ((rd x8_2 (ji47)) : Int).toNat * 2, none⟩ (.int .u64 (rd x7_2 (rd x8_2 (ji47))))).setCell ⟨go57, ((rd x8_2 (ji47)) : Int).toNat * 2 + 1, none⟩ (.int .i64 (rd x9_2 (ji50)))) w.heap.size (fun k_ => some k_ ≠ (.slice (some ad121) y123.length co79 : Value).ownBlock) (.slice (some ad122) x9_2.length co80) x9_2) := ⟨by (with_reducible repeat (first|apply Kd.R_alloc|apply Kd.R_drewN|apply Kd.R_drew));exact Kd.R_mono (Kd.R_far (p := ⟨go57, ((rd x8_2 (ji47)) : Int).toNat * 2 + 1, none⟩) (Kd.R_far (p := ⟨go57, ((rd x8_2 (ji47)) : Int).toNat * 2, none⟩) (Kd.R_types HO_9.out GG57.out (by decide)) (fun _ hk => hk.2) (.int .u64 (rd x7_2 (rd x8_2 (ji47))))) (fun _ hk => hk.2) (.int .i64 (rd x9_2 (ji50)))) (fun _ hk => hk.1)⟩
                        have n3_ : Aside0 (Kd.R k107 107 ((w82.setCell ⟨go57, ((rd x8_2 (ji47)) : Int).toNat * 2, none⟩ (.int .u64 (rd x7_2 (rd x8_2 (ji47))))).setCell ⟨go57, ((rd x8_2 (ji47)) : Int).toNat * 2 + 1, none⟩ (.int .i64 (rd x9_2 (ji50)))) w.heap.size (fun _ => True) (.slice (some ⟨go57, 0, none⟩) x108001_2.length co57) y127) := ⟨by (with_reducible repeat (first|apply Kd.R_alloc|apply Kd.R_drewN|apply Kd.R_drew));exact HQ84.out⟩
                        have n4_ : Aside0 (((w82.setCell ⟨go57, ((rd x8_2 (ji47)) : Int).toNat * 2, none⟩ (.int .u64 (rd x7_2 (rd x8_2 (ji47))))).setCell ⟨go57, ((rd x8_2 (ji47)) : Int).toNat * 2 + 1, none⟩ (.int .i64 (rd x9_2 (ji50)))).heap[gb101]? = some (.cells #[.int .u64 0, .slice none 0 0] 53 (0, 0))) := ⟨by (with_reducible repeat (first|refine blk_drewN ?_ _|refine blk_drew ?_|refine blk_alloc ?_ _));refine blk_far ?_ (by have h_ := Kd.R_ne HO_108001.out BK101.out (by decide);intro e_;exact h_ (by rw [e_];rfl)) _;(with_reducible repeat (first|refine blk_drewN ?_ _|refine blk_drew ?_|refine blk_alloc ?_ _));refine blk_far ?_ (by have h_ := Kd.R_ne HO_108001.out BK101.out (by decide);intro e_;exact h_ (by rw [e_];rfl)) _;(with_reducible repeat (first|refine blk_drewN ?_ _|refine blk_drew ?_|refine blk_alloc ?_ _));exact BK101.out⟩
                        have n5_ : Aside0 (((w82.setCell ⟨go57, ((rd x8_2 (ji47)) : Int).toNat * 2, none⟩ (.int .u64 (rd x7_2 (rd x8_2 (ji47))))).setCell ⟨go57, ((rd x8_2 (ji47)) : Int).toNat * 2 + 1, none⟩ (.int .i64 (rd x9_2 (ji50)))).heap[gb107]? = some (.cells #[.int .u64 t102, .slice (some ⟨go57, 0, none⟩) x108001_2.length co57] 53 (0, 0))) := ⟨by (with_reducible repeat (first|refine blk_drewN ?_ _|refine blk_drew ?_|refine blk_alloc ?_ _));refine blk_far ?_ (by have h_ := Kd.R_ne HO_108001.out BK107.out (by decide);intro e_;exact h_ (by rw [e_];rfl)) _;(with_reducible repeat (first|refine blk_drewN ?_ _|refine blk_drew ?_|refine blk_alloc ?_ _));refine blk_far ?_ (by have h_ := Kd.R_ne HO_108001.out BK107.out (by decide);intro e_;exact h_ (by rw [e_];rfl)) _;(with_reducible repeat (first|refine blk_drewN ?_ _|refine blk_drew ?_|refine blk_alloc ?_ _));exact BK107.out⟩
                        have n6_ : Aside0 (Below w.heap.size w ((w82.setCell ⟨go57, ((rd x8_2 (ji47)) : Int).toNat * 2, none⟩ (.int .u64 (rd x7_2 (rd x8_2 (ji47))))).setCell ⟨go57, ((rd x8_2 (ji47)) : Int).toNat * 2 + 1, none⟩ (.int .i64 (rd x9_2 (ji50))))) := ⟨by repeat (first|(with_reducible first|exact HB.out|apply below_alloc|apply pw_below_drewN|apply below_drew1|refine below_set ?_ GB57.out|refine below_set ?_ GB57.out|refine below_set ?_ GE101.out|refine below_set ?_ GE107.out)|exact HB.out)⟩
                        (try clear HO_7)
                        (try clear HO125)
                        (try clear HO_9)
                        (try clear HO_108001)
                        (try clear BK101)
                        (try clear BK107)
                        (try clear HB)
                        generalize ((w82.setCell ⟨go57, ((rd x8_2 (ji47)) : Int).toNat * 2, none⟩ (.int .u64 (rd x7_2 (rd x8_2 (ji47))))).setCell ⟨go57, ((rd x8_2 (ji47)) : Int).toNat * 2 + 1, none⟩ (.int .i64 (rd x9_2 (ji50)))) = w85 at n0_ n1_ n2_ n3_ n4_ n5_ n6_ ⊢
                        have HO_7 := n0_
                        have HO125 := n1_
                        have HO_9 := n2_
                        have HO_108001 := n3_
                        have BK101 := n4_
                        have BK107 := n5_
                        have HB := n6_
                        clear n0_ n1_ n2_ n3_ n4_ n5_ n6_
                        have n0_ := Aside0.mk (Kd.R_drew HO_7.out)
                        have n1_ := Aside0.mk (Kd.R_drew HO125.out)
                        have n2_ := Aside0.mk (Kd.R_drew HO_9.out)
                        have n3_ := Aside0.mk (Kd.R_drew HO_108001.out)
                        have n4_ := Aside0.mk (blk_drew BK101.out)
                        have n5_ := Aside0.mk (blk_drew BK107.out)
                        have n6_ := Aside0.mk (below_drew1 HB.out)
                        clear HO_7
                        clear HO125
                        clear HO_9
                        clear HO_108001
                        clear BK101
                        clear BK107
                        clear HB
                        have HO_7 := n0_
                        have HO125 := n1_
                        have HO_9 := n2_
                        have HO_108001 := n3_
                        have BK101 := n4_
                        have BK107 := n5_
                        have HB := n6_
                        clear n0_ n1_ n2_ n3_ n4_ n5_ n6_
                        have p128 : 0 ≤ ((rd x9_2 (ji50)) : Int) := of_decide_eq_true (by first|(with_reducible assumption)|assumption)
                        have q128 : (rd x9_2 (ji50)) < (x7_2.length : Int) := of_decide_eq_true (by first|(with_reducible assumption)|assumption)
                        obtain ⟨ad128, e128, hx128_0⟩ := Kd.at_int (Kd.R_reads' HO_7.out).2.2 (rd x9_2 (ji50)) p128 q128
                        obtain rfl : ad126 = ad128 := (by injection e128)
                        replace p128 := eq_true p128
                        replace q128 := eq_true q128
                        have p129 : 0 ≤ ((rd x8_2 (ji47)) : Int) := of_decide_eq_true (by first|(with_reducible assumption)|assumption)
                        have q129 : (rd x8_2 (ji47)) < (x7_2.length : Int) := of_decide_eq_true (by first|(with_reducible assumption)|assumption)
                        obtain ⟨ad129, e129, hx129_0⟩ := Kd.at_int (Kd.R_reads' HO_7.out).2.2 (rd x8_2 (ji47)) p129 q129
                        obtain rfl : ad126 = ad129 := (by injection e129)
                        replace p129 := eq_true p129
                        replace q129 := eq_true q129
                        have p60 : 0 ≤ ((rd x9_2 (ji50)) : Int) := of_decide_eq_true (by first|(with_reducible assumption)|assumption)
                        have q60 : ((rd x9_2 (ji50)) : Int) < ((x7_2.length : Int) : Int) := of_decide_eq_true (by first|(with_reducible assumption)|assumption)
                        obtain ⟨go60, co60, eo60, gb60, gl60, cl60, HG60⟩ := Kd.R_form HO_7.out (by omega)
                        (first|cases eo60|(injection eo60 with ea_ en_ ec_;(first|subst ea_|(injection ea_ with ea_;subst ea_));subst ec_;clear en_))
                        have GB60 := Aside0.mk gb60
                        have GG60 := Aside0.mk HG60
                        clear gb60 gl60 HG60
                        (first|simp only [add_plain] at hx126_0|skip)
                        (first|simp only [add_plain] at hx128_0|skip)
                        (first|simp only [add_plain] at hx129_0|skip)
                        obtain ⟨hx60_0, hf60_0⟩ := Kd.R_celln 0 HO_7.out ((rd x9_2 (ji50)) : Int) p60 q60
                        replace p60 := eq_true p60
                        replace q60 := eq_true q60
                        have HP87 := Kd.R_putn HO_7.out ((rd x9_2 (ji50)) : Int) (IntKind.u64.wrap ((rd x7_2 (rd x9_2 (ji50))) - (IntKind.u64.wrap (t102 - (rd x7_2 (rd x8_2 (ji47)))))))
                        rw [← Ny130.out] at HP87
                        have HQ87 := Aside0.mk HP87
                        clear HP87
                        refine start_ (n := 13) (S := fun w' => w'.cell? ⟨go60, ((rd x9_2 (ji50))).toNat, none⟩ = some (.int .u64 (rd x7_2 (rd x9_2 (ji50)))) ∧ w'.cell? ⟨go60, ((rd x8_2 (ji47))).toNat, none⟩ = some (.int .u64 (rd x7_2 (rd x8_2 (ji47))))) (ds := [12]) #[false, false, false, false, false, false, false, false, false, false, false, false, false] (by kernel_rfl) rfl rfl ⟨(by first|exact hx128_0|(have h := hx128_0; rw [add_plain] at h; exact h)|(have h := hx128_0; simp only [add_plain, Nat.zero_add] at h; exact h)), (by first|exact hx129_0|(have h := hx129_0; rw [add_plain] at h; exact h)|(have h := hx129_0; simp only [add_plain, Nat.zero_add] at h; exact h))⟩ (fun hHeld => ?_);refine with_tabW alias_Build.tab20 alias_Build.bits20 (fun HT_ HW_ => ?_)
                        generalize w85.drew = w86 at HO_7 HO125 HO_9 HO_108001 BK101 BK107 HB GG60 HQ84 HQ87 hf60_0 hx126_0 hx128_0 hx129_0 hx60_0 hHeld ⊢
                        refine pure_ (i := 0) (N := some 103) (v := ?_) (a' := ?_) #[true, false, false, false, false, false, false, false, false, false, false, false, false] rfl rfl (any_of HT_.out (by kernel_rfl)) (fun _ _ _ h => h) (Or.inl ⟨by rfl, ?_⟩) ?_ ?_
                        rotate_left
                        ·intro w'
                         go_simp
                         with_reducible rfl
                        rotate_left
                        ·simp only [Act.put, List.setIfInBounds_toArray, List.set_cons_zero, List.set_cons_succ, i64_w, i32_w]
                         rfl
                        refine pure_ (i := 1) (N := some 104) (v := ?_) (a' := ?_) #[true, true, false, false, false, false, false, false, false, false, false, false, false] rfl rfl (any_of HT_.out (by kernel_rfl)) (fun _ _ _ h => h) (Or.inl ⟨by rfl, ?_⟩) ?_ ?_
                        rotate_left
                        ·intro w'
                         go_simp
                         with_reducible rfl
                        rotate_left
                        ·simp only [Act.put, List.setIfInBounds_toArray, List.set_cons_zero, List.set_cons_succ, i64_w, i32_w]
                         rfl
                        refine pure_ (i := 2) (N := some 105) (v := ?_) (a' := ?_) #[true, true, true, false, false, false, false, false, false, false, false, false, false] rfl rfl (any_of HT_.out (by kernel_rfl)) (fun _ _ _ h => h) (Or.inl ⟨by rfl, ?_⟩) ?_ ?_
                        rotate_left
                        ·intro w'
                         go_simp
                         with_reducible rfl
                        rotate_left
                        ·simp only [Act.put, List.setIfInBounds_toArray, List.set_cons_zero, List.set_cons_succ, i64_w, i32_w]
                         rfl
                        refine pure_ (i := 4) (N := some 107) (v := ?_) (a' := ?_) #[true, true, true, false, true, false, false, false, false, false, false, false, false] rfl rfl (any_of HT_.out (by kernel_rfl)) (fun _ _ _ h => h) (Or.inl ⟨by rfl, ?_⟩) ?_ ?_
                        rotate_left
                        ·intro w'
                         go_simp
                         with_reducible rfl
                        rotate_left
                        ·simp only [Act.put, List.setIfInBounds_toArray, List.set_cons_zero, List.set_cons_succ, i64_w, i32_w]
                         rfl
                        refine pure_ (i := 5) (N := some 108) (v := ?_) (a' := ?_) #[true, true, true, false, true, true, false, false, false, false, false, false, false] rfl rfl (any_of HT_.out (by kernel_rfl)) (fun _ _ _ h => h) (Or.inl ⟨by rfl, ?_⟩) ?_ ?_
                        rotate_left
                        ·intro w'
                         go_simp
                         with_reducible rfl
                        rotate_left
                        ·simp only [Act.put, List.setIfInBounds_toArray, List.set_cons_zero, List.set_cons_succ, i64_w, i32_w]
                         rfl
                        refine pure_ (i := 6) (N := some 109) (v := ?_) (a' := ?_) #[true, true, true, false, true, true, true, false, false, false, false, false, false] rfl rfl (any_of HT_.out (by kernel_rfl)) (fun _ _ _ h => h) (Or.inl ⟨by rfl, ?_⟩) ?_ ?_
                        rotate_left
                        ·intro w'
                         go_simp
                         with_reducible rfl
                        rotate_left
                        ·simp only [Act.put, List.setIfInBounds_toArray, List.set_cons_zero, List.set_cons_succ, i64_w, i32_w]
                         rfl
                        refine pure_ (i := 7) (N := some 110) (v := ?_) (a' := ?_) #[true, true, true, false, true, true, true, true, false, false, false, false, false] rfl rfl (any_of HT_.out (by kernel_rfl)) (fun _ _ _ h => h) (Or.inl ⟨by rfl, ?_⟩) ?_ ?_
                        rotate_left
                        ·intro w'
                         go_simp
                         with_reducible rfl
                        rotate_left
                        ·simp only [Act.put, List.setIfInBounds_toArray, List.set_cons_zero, List.set_cons_succ, i64_w, i32_w]
                         rfl
                        refine take_ (i := 3) (N := some 106) (v := ?_) (a' := ?_) #[true, true, true, true, true, true, true, true, false, false, false, false, false] rfl rfl (take_ofW HT_.out HW_.out (by kernel_rfl)) (fun _ _ _ h => h) (Or.inl ⟨by rfl, ?_⟩) hHeld ?_ ?_
                        rotate_left
                        ·rintro w' ⟨s0, s1⟩
                         go_simp
                         with_reducible rfl
                        rotate_left
                        ·simp only [Act.put, List.setIfInBounds_toArray, List.set_cons_zero, List.set_cons_succ, i64_w, i32_w]
                         rfl
                        refine take_ (i := 8) (N := some 111) (v := ?_) (a' := ?_) #[true, true, true, true, true, true, true, true, true, false, false, false, false] rfl rfl (take_ofW HT_.out HW_.out (by kernel_rfl)) (fun _ _ _ h => h) (Or.inl ⟨by rfl, ?_⟩) hHeld ?_ ?_
                        rotate_left
                        ·rintro w' ⟨s0, s1⟩
                         go_simp
                         with_reducible rfl
                        rotate_left
                        ·simp only [Act.put, List.setIfInBounds_toArray, List.set_cons_zero, List.set_cons_succ, i64_w, i32_w]
                         rfl
                        refine pure_ (i := 9) (N := some 112) (v := ?_) (a' := ?_) #[true, true, true, true, true, true, true, true, true, true, false, false, false] rfl rfl (any_of HT_.out (by kernel_rfl)) (fun _ _ _ h => h) (Or.inl ⟨by rfl, ?_⟩) ?_ ?_
                        rotate_left
                        ·intro w'
                         go_simp
                         with_reducible rfl
                        rotate_left
                        ·simp only [Act.put, List.setIfInBounds_toArray, List.set_cons_zero, List.set_cons_succ, i64_w, i32_w]
                         rfl
                        refine pure_ (i := 10) (N := some 113) (v := ?_) (a' := ?_) #[true, true, true, true, true, true, true, true, true, true, true, false, false] rfl rfl (any_of HT_.out (by kernel_rfl)) (fun _ _ _ h => h) (Or.inl ⟨by rfl, ?_⟩) ?_ ?_
                        rotate_left
                        ·intro w'
                         go_simp
                         with_reducible rfl
                        rotate_left
                        ·simp only [Act.put, List.setIfInBounds_toArray, List.set_cons_zero, List.set_cons_succ, i64_w, i32_w]
                         rfl
                        refine pure_ (i := 11) (N := some 114) (v := ?_) (a' := ?_) #[true, true, true, true, true, true, true, true, true, true, true, true, false] rfl rfl (any_of HT_.out (by kernel_rfl)) (fun _ _ _ h => h) (Or.inl ⟨by rfl, ?_⟩) ?_ ?_
                        rotate_left
                        ·intro w'
                         go_simp
                         with_reducible rfl
                        rotate_left
                        ·simp only [Act.put, List.setIfInBounds_toArray, List.set_cons_zero, List.set_cons_succ, i64_w, i32_w]
                         rfl
                        refine last_ (i := 12) (N := none) #[true, true, true, true, true, true, true, true, true, true, true, true, true] rfl rfl (one_of HT_.out (by kernel_rfl)) (by decide) (fun K hK => ?_)
                        refine skip_ (w1 := ?_) (by rfl) rfl ?_ ?_
                        rotate_left
                        ·go_simp
                         rfl
                        refine hK.out _ _ ?_
                        clear hK K
                        refine done_ (done_of HT_.out (by kernel_rfl)) ?_
                        have p61 : 0 ≤ ((rd x9_2 (ji50)) : Int) := of_decide_eq_true (by first|(with_reducible assumption)|assumption)
                        have q61 : ((rd x9_2 (ji50)) : Int) < ((x7_2.length : Int) : Int) := of_decide_eq_true (by first|(with_reducible assumption)|assumption)
                        try (have hx61_0 := (Kd.R_celln 0 HO_7.out ((rd x9_2 (ji50)) : Int) p61 q61).1; rw [Ny130.out, set_own _ _ _ p61 q61] at hx61_0)
                        replace p61 := eq_true p61
                        replace q61 := eq_true q61
                        try go_wp2
                        go_roundg kj40
                        case measure => have := HK1.out;have := HK2.out;have := HJ40.out;omega
                        case rel => exact ⟨(y130), (y123), (x9_2), (y127), (.slice (some ⟨go57, 0, none⟩) x108001_2.length co57), H', ⟨by have := HK1.out;have := HK2.out;have := HJ40.out;omega⟩, ⟨by (with_reducible repeat (first|apply Kd.R_alloc|apply Kd.R_drewN|apply Kd.R_drew));exact HQ87.out⟩, ⟨by (with_reducible repeat (first|apply Kd.R_alloc|apply Kd.R_drewN|apply Kd.R_drew));exact Kd.R_mono (Kd.R_far (p := ⟨go60, ((rd x9_2 (ji50)) : Int).toNat, none⟩) (Kd.R_types HO125.out GG60.out (by decide)) (fun _ hk => hk.2) (.int .u64 (IntKind.u64.wrap ((rd x7_2 (rd x9_2 (ji50))) - (IntKind.u64.wrap (t102 - (rd x7_2 (rd x8_2 (ji47))))))))) (fun _ hk => hk.1)⟩, ⟨by (with_reducible repeat (first|apply Kd.R_alloc|apply Kd.R_drewN|apply Kd.R_drew));exact Kd.R_mono (Kd.R_far (p := ⟨go60, ((rd x9_2 (ji50)) : Int).toNat, none⟩) (Kd.R_types HO_9.out GG60.out (by decide)) (fun _ hk => hk.2) (.int .u64 (IntKind.u64.wrap ((rd x7_2 (rd x9_2 (ji50))) - (IntKind.u64.wrap (t102 - (rd x7_2 (rd x8_2 (ji47))))))))) (fun _ hk => hk.1)⟩, ⟨by (with_reducible repeat (first|apply Kd.R_alloc|apply Kd.R_drewN|apply Kd.R_drew));exact Kd.R_mono (Kd.R_far (p := ⟨go60, ((rd x9_2 (ji50)) : Int).toNat, none⟩) (Kd.R_types HO_108001.out GG60.out (by decide)) (fun _ hk => hk.2) (.int .u64 (IntKind.u64.wrap ((rd x7_2 (rd x9_2 (ji50))) - (IntKind.u64.wrap (t102 - (rd x7_2 (rd x8_2 (ji47))))))))) (fun _ hk => trivial)⟩, ⟨by (with_reducible repeat (first|refine blk_drewN ?_ _|refine blk_drew ?_|refine blk_alloc ?_ _));refine blk_far ?_ (by have h_ := Kd.R_ne HO_7.out BK101.out (by decide);intro e_;exact h_ (by rw [e_];rfl)) _;(with_reducible repeat (first|refine blk_drewN ?_ _|refine blk_drew ?_|refine blk_alloc ?_ _));exact BK101.out⟩, ⟨by (with_reducible repeat (first|refine blk_drewN ?_ _|refine blk_drew ?_|refine blk_alloc ?_ _));refine blk_far ?_ (by have h_ := Kd.R_ne HO_7.out BK107.out (by decide);intro e_;exact h_ (by rw [e_];rfl)) _;(with_reducible repeat (first|refine blk_drewN ?_ _|refine blk_drew ?_|refine blk_alloc ?_ _));exact BK107.out⟩, ⟨by repeat (first|(with_reducible first|exact HB.out|apply below_alloc|apply pw_below_drewN|apply below_drew1|refine below_set ?_ GB60.out|refine below_set ?_ GE101.out|refine below_set ?_ GE107.out)|exact HB.out)⟩⟩
                      ·rw [if_neg c59] at H
                       exact absurd H (by simp)
                     ·rw [if_neg c58] at H
                      exact absurd H (by simp)
                    ·rw [if_neg c56] at H
                     exact absurd H (by simp)
                   ·rw [if_neg c55] at H
                    exact absurd H (by simp)
                  ·rw [if_neg c54] at H
                   exact absurd H (by simp)
                 ·rw [if_neg c53] at H
                  exact absurd H (by simp)
                ·rw [if_neg c52] at H
                 exact absurd H (by simp)
               ·rw [if_neg c51] at H
                exact absurd H (by simp)
              ·rw [if_neg c49] at H
               exact absurd H (by simp)
             ·rw [if_neg c48] at H
              exact absurd H (by simp)
            ·replace c46 := Bool.eq_false_iff.mpr c46
             subst c46
             have H1 : (some (t102, x108001_2, 0)) = some (r1, r2, r3) := by rw [if_neg (show ¬ (false = true) by decide)] at H;exact H
             clear H
             have H := H1
             clear H1
             simp only [Option.some.injEq, Prod.mk.injEq] at H
             obtain ⟨rfl, rfl, rfl⟩ := H
             have hnb88 := NB107_101.out
             have hnc88 := NB101_107.out
             have hcz89_0 : wc.cell? ⟨gb107, 0, none⟩ = some (.int .u64 t102) := (blk_cell BK107.out 0).trans rfl
             have hcz89_1 : wc.cell? ⟨gb107, 1, none⟩ = some (u108001) := (blk_cell BK107.out 1).trans rfl
             have hfz89_0 := blk_frozen BK107.out 0
             have hfz89_1 := blk_frozen BK107.out 1
             have hcz90_0 : wc.cell? ⟨gb101, 0, none⟩ = some (.int .u64 0) := (blk_cell BK101.out 0).trans rfl
             have hcz90_1 : wc.cell? ⟨gb101, 1, none⟩ = some (.slice none 0 0) := (blk_cell BK101.out 1).trans rfl
             have hfz90_0 := blk_frozen BK101.out 0
             have hfz90_1 := blk_frozen BK101.out 1
             obtain ⟨Ao91, co91, eo91⟩ := Kd.R_slice HO_108001.out
             subst eo91
             go_wp2
             refine bodyPost_ret (results_ct rfl _ _ gb101 53 #[.int .u64 t102, .slice Ao91 x108001_2.length co91] (0, 0) _ rfl (by (with_reducible repeat (first|refine blk_drewN ?_ _|refine blk_drew ?_|refine blk_alloc ?_ _));refine blk_put (cs := #[.int .u64 t102, .slice none 0 0]) ?_ 1 _ rfl;(with_reducible repeat (first|refine blk_drewN ?_ _|refine blk_drew ?_|refine blk_alloc ?_ _));refine blk_put (cs := #[.int .u64 0, .slice none 0 0]) ?_ 0 _ rfl;(with_reducible repeat (first|refine blk_drewN ?_ _|refine blk_drew ?_|refine blk_alloc ?_ _));exact BK101.out) Try.underlying53 rfl (by kernel_rfl)) rfl ?_
             exact ⟨_, by first|rfl|(simp [errW_none, errW_some] <;> rfl)|(simp [*, errW_none, errW_some] <;> rfl), by (with_reducible repeat (first|apply Kd.R_alloc|apply Kd.R_drewN|apply Kd.R_drew));exact Kd.R_mono (Kd.R_far (p := ⟨gb101, 1, none⟩) (Kd.R_far (p := ⟨gb101, 0, none⟩) (Kd.R_types HO_108001.out BK101.out (by decide)) (fun _ hk => hk.2) (.int .u64 t102)) (fun _ hk => hk.2) (.slice Ao91 x108001_2.length co91)) (fun _ hk => trivial), by repeat (first|(with_reducible first|exact HB.out|apply below_alloc|apply pw_below_drewN|apply below_drew1|refine below_set ?_ GE101.out|refine below_set ?_ GE107.out)|exact HB.out)⟩
    ·rw [if_neg c6] at H
     exact absurd H (by simp)
   ·rw [if_neg c5] at H
    exact absurd H (by simp)
  ·rw [if_neg c4] at H
   exact absurd H (by simp)
 ·rw [if_neg c3] at H
  have c3b0 : (t103 == 0) = false := beq_eq_false_iff_ne.mpr c3
  have c3b1 : (t103 != 0) = true := bne_iff_ne.mpr c3
  simp only [Option.some.injEq, Prod.mk.injEq] at H
  obtain ⟨rfl, rfl, rfl⟩ := H
  go_enter Try.func39, Try.ntmps39
  go_wp2_with (first|((with_reducible refine gate_dst (N := 2) rfl ?_);(try (refine gate_guard (by rfl) ?_;dsimp only));refine box_event ?hg (N := 2) ?hd (cs := #[.int .u64 0, .slice none 0 0]) (t := 53) ?hr ?_;(case hd => rfl);(case hg => rfl);(case hr => first|(go_simp;done)|(go_simp;rfl));intro gb101 hg w92 hbox hb;have n0_ := Aside0.mk (below_step (by repeat (first|(with_reducible first|exact HB.out|apply below_alloc|apply pw_below_drewN|apply below_drew1)|exact HB.out)) hb);have n1_ := Aside0.mk (hbox);have n2_ := Aside0.mk ((by rw [hg];exact (below_size (by repeat (first|(with_reducible first|exact HB.out|apply below_alloc|apply pw_below_drewN|apply below_drew1)|exact HB.out))) : w.heap.size ≤ gb101));have n3_ := Aside0.mk ((by rw [hg];exact (below_size (by repeat (first|(with_reducible first|exact HB.out|apply below_alloc|apply pw_below_drewN|apply below_drew1)|exact HB.out))) : w.heap.size ≤ gb101));clear HB;have HB := n0_;have BK101 := n1_;have GW101 := n2_;have GE101 := n3_;clear n0_ n1_ n2_ n3_;clear hb hbox hg)|((with_reducible refine gate_callee (f := 69) rfl ?_);refine goesL_ (some 16) rfl rfl Try.func69 (by kernel_rfl) rfl #[.slice A0 l0.length c0] rfl (by (try simp only [List.map_toArray, List.map_cons, List.map_nil]);first|done|rfl|(simp only [List.length_drop, List.length_take];rfl)) ?_;(with_reducible refine (alias_measure.calls k _ _ l0 t102 t103 _ ?side1 ?side2 A2.out).mono ?_);(case side1 => repeat (first|exact (Kd.C_below HR0.out HB.out)|(with_reducible refine Kd.C_alloc ?_ _)|(with_reducible refine Kd.C_drewN ?_ _)|(with_reducible refine Kd.C_drew ?_)));(case side2 => exact HC0.out);rintro e w93 ⟨rfl, hb⟩;refine ⟨_, rfl, ?_⟩;have n0_ := Aside0.mk (blk_below (g := gb101) (o := .cells #[.int .u64 0, .slice none 0 0] 53 (0, 0)) (by (with_reducible repeat (first|refine blk_drewN ?_ _|refine blk_drew ?_|refine blk_alloc ?_ _));exact BK101.out) hb);have n1_ := Aside0.mk (below_step (by repeat (first|(with_reducible first|exact HB.out|apply below_alloc|apply pw_below_drewN|apply below_drew1|refine below_set ?_ GE101.out)|exact HB.out)) hb);clear BK101;clear HB;have BK101 := n0_;have HB := n1_;clear n0_ n1_;(try clear hb);(try clear hb2);(try clear hk);(try clear hi);have hcz94_0 : w93.cell? ⟨gb101, 0, none⟩ = some (.int .u64 0) := (blk_cell BK101.out 0).trans rfl;have hcz94_1 : w93.cell? ⟨gb101, 1, none⟩ = some (.slice none 0 0) := (blk_cell BK101.out 1).trans rfl;have hfz94_0 := blk_frozen BK101.out 0;have hfz94_1 := blk_frozen BK101.out 1))
  refine bodyPost_ret (results_ct rfl _ _ gb101 53 #[.int .u64 0, .slice none 0 0] (0, 0) _ rfl (by (with_reducible repeat (first|refine blk_drewN ?_ _|refine blk_drew ?_|refine blk_alloc ?_ _));refine blk_put (cs := #[.int .u64 0, .slice none 0 0]) ?_ 1 _ rfl;(with_reducible repeat (first|refine blk_drewN ?_ _|refine blk_drew ?_|refine blk_alloc ?_ _));refine blk_put (cs := #[.int .u64 0, .slice none 0 0]) ?_ 0 _ rfl;(with_reducible repeat (first|refine blk_drewN ?_ _|refine blk_drew ?_|refine blk_alloc ?_ _));exact BK101.out) Try.underlying53 rfl (by kernel_rfl)) rfl ?_
  exact ⟨_, by first|rfl|(simp [errW_none, errW_some] <;> rfl)|(simp [*, errW_none, errW_some] <;> rfl), by first|exact Kd.R_nil _ _ _ _ _|exact Kd.N_nil _ _ _ _ _|exact Kd.V_nil _ _ _ _ _|exact Kd.Q_nil _ _ _ _ _|exact Kd.S_nil _ _ _ _ _, by repeat (first|(with_reducible first|exact HB.out|apply below_alloc|apply pw_below_drewN|apply below_drew1|refine below_set ?_ GE101.out)|exact HB.out)⟩
end Go.Proofs.Ytjphoempoinedaa.F
