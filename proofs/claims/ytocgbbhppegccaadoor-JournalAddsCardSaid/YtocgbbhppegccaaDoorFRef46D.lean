-- Cut for this claim by a program (wip/prune.py) out of the texts that its bench laid or wrote
import Derived.Test.YtocgbbhppegccaaDoorFJournalA
import Derived.Test.YtocgbbhppegccaaDoorFRef46B
import Derived.Test.YtocgbbhppegccaaDoorFRef31A
import Derived.Test.YtocgbbhppegccaaDoorJP2
namespace Go.Proofs.YtocgbbhppegccaaDoor.F
open Go.RowKit Go.Proofs.YtocgbbhppegccaaDoorW.PrintWords Go.Proofs.YtocgbbhppegccaaDoorW.PrintLast Go.Proofs.YtocgbbhppegccaaDoorW.PrintMore
attribute [local go_sem] max2_int min2_int max_two min_two max_three min_three max_four min_four
set_option linter.unusedVariables false
set_option linter.unusedSimpArgs false
mutual
def tombolaref46_Read.l0 : Nat → List Int → List (S29) → Int → Int → Option ((List (S29)) × Int)
 | 0, _, _, _, _ => none
 | k + 1, x0, x4, x5, x6 => if (wrap64 (x6 + 33)) ≤ (x0.length : Int) then (tombolaref46_Read.j1 k x0 x4 x5 x6 (decide ((x4.length : Int) < 4096))) else (tombolaref46_Read.j1 k x0 x4 x5 x6 false)
def tombolaref46_Read.j1 : Nat → List Int → List (S29) → Int → Int → Bool → Option ((List (S29)) × Int)
 | 0, _, _, _, _, _ => none
 | k + 1, x0, x4, x5, x6, x20 => if x20 = true then (if 0 ≤ x6 then (if x6 ≤ (wrap64 (x6 + 33)) then (if (wrap64 (x6 + 33)) ≤ (x0.length : Int) then (if 0 < (((x0.take ((wrap64 (x6 + 33)) : Int).toNat).drop (x6 : Int).toNat).length : Int) then (if 1 ≤ (((x0.take ((wrap64 (x6 + 33)) : Int).toNat).drop (x6 : Int).toNat).length : Int) then ((tombolaref46_number.f k (((x0.take ((wrap64 (x6 + 33)) : Int).toNat).drop (x6 : Int).toNat).drop 1)).bind fun t104 => (if 9 ≤ (((x0.take ((wrap64 (x6 + 33)) : Int).toNat).drop (x6 : Int).toNat).length : Int) then ((tombolaref46_number.f k (((x0.take ((wrap64 (x6 + 33)) : Int).toNat).drop (x6 : Int).toNat).drop 9)).bind fun t106 => (if 17 ≤ (((x0.take ((wrap64 (x6 + 33)) : Int).toNat).drop (x6 : Int).toNat).length : Int) then ((tombolaref46_number.f k (((x0.take ((wrap64 (x6 + 33)) : Int).toNat).drop (x6 : Int).toNat).drop 17)).bind fun t108 => ((tombolaref46_Frame.f k x5 (wrap64 (rd ((x0.take ((wrap64 (x6 + 33)) : Int).toNat).drop (x6 : Int).toNat) 0)) (wrap64 (t104)) (wrap64 (t106)) (wrap64 (t108))).bind fun bt110 => ((tombolaref31_Name.f (wrap64 (rd ((x0.take ((wrap64 (x6 + 33)) : Int).toNat).drop (x6 : Int).toNat) 0))).bind fun t114 => (if t114.toList = ([] : List UInt8) then (some (x4, x6)) else (if (strOfNums bt110.1).toList = (strOfNums ((x0.take ((wrap64 (x6 + 33)) : Int).toNat).drop (x6 : Int).toNat)).toList then (if x4.length < 4398046511104 then (tombolaref46_Read.l0 k x0 (x4 ++ [(⟨wrap64 (rd ((x0.take ((wrap64 (x6 + 33)) : Int).toNat).drop (x6 : Int).toNat) 0), wrap64 (t104), wrap64 (t106), wrap64 (t108)⟩ : S29)]) bt110.2 (wrap64 (x6 + 33))) else (none)) else (some (x4, x6))))))) else (none))) else (none))) else (none)) else (none)) else (none)) else (none)) else (none)) else (some (x4, x6))
end
def tombolaref46_Read.f (k : Nat) (l0 : List Int) : Option ((List (S29)) × Int) := tombolaref46_Read.l0 k l0 ([] : List (S29)) 0 0
def tombolaref46_Read.T6 : Bool × List (List Nat × List Nat) := (true, [([], []), ([0], [0]), ([1], [1]), ([2], [2]), ([], []), ([4], [4]), ([5], [5]), ([6], [6]), ([], []), ([8], [8]), ([9, 6], [9]), ([10], [10]), ([], []), ([12], [12]), ([13, 10], [13]), ([14], [14]), ([3, 7, 11, 15], [3, 7, 11, 15]), ([], []), ([17, 16, 14, 0, 1, 2, 3, 4, 5, 6, 7, 8, 9, 10, 11, 12, 13, 14, 15, 16, 17], [16, 17])])
def tombolaref46_Read.B6 : List Nat := [0, 1, 3, 7, 0, 16, 48, 112, 0, 256, 880, 1904, 0, 4096, 14192, 30576, 65535, 0, 262143]
theorem tombolaref46_Read.tab6 : rtab .any (opsOf Tryd.f16 6) = tombolaref46_Read.T6 := by kernel_rfl
theorem tombolaref46_Read.bits6 : waitsOk tombolaref46_Read.T6.2 tombolaref46_Read.B6 = true := by kernel_rfl
set_option maxHeartbeats 8000000 in
set_option maxRecDepth 100000 in
theorem tombolaref46_Read.calls (k : Nat) (A0 : Option Addr) (c0 : Nat) (l0 : List Int) (r1 : List (S29)) (r2 : Int) (w : World) (hr0 : Kd.C (Kd.int .u8) w A0 l0.length l0) (hc0 : l0.length ≤ c0) (h : tombolaref46_Read.f k l0 = some (r1, r2)) :
  Calls Tryd.prog 16 #[.slice A0 l0.length c0] w fun e w' => ∃ v0_ : Value, e = .returned (.tuple #[v0_, .int .i64 r2]) ∧ Kd.R k29 29 w' w.heap.size (fun _ => True) v0_ r1 ∧ Below w.heap.size w w' := by
 have hu29 := Tryd.underlying29
 have HR0 := Aside0.mk hr0
 have HC0 := Aside0.mk hc0
 clear hr0 hc0
 have HB := Aside0.mk (Below.refl w.heap.size w)
 have H : (tombolaref46_Read.l0 k l0 ([] : List (S29)) 0 0) = some (r1, r2) := h
 clear h
 have H' := Aside0.mk H
 clear H
 go_enter Tryd.func16, Tryd.ntmps16
 go_wp2
 go_loopg [4, 5, 6] k (fun kq v4 v5 v6 w' => ∃ (x4_1 : List (S29)) (x5_1 : Int) (x6_1 : Int), v5 = .int .u64 x5_1 ∧ v6 = .int .i64 x6_1 ∧ Aside0 (tombolaref46_Read.l0 kq l0 x4_1 x5_1 x6_1 = some (r1, r2)) ∧ Aside0 (kq ≤ k) ∧ Aside0 (Kd.R k29 29 w' w.heap.size (fun _ => True) v4 x4_1) ∧ Aside0 (Below w.heap.size w w'))
 case atStart => exact ⟨(([] : List (S29))), (0), (0), (by first|rfl|(simp;done)|(simp [*];done)), (by first|rfl|(simp;done)|(simp [*];done)), H', ⟨Nat.le_refl _⟩, ⟨by first|exact Kd.R_nil _ _ _ _ _|exact Kd.N_nil _ _ _ _ _|exact Kd.V_nil _ _ _ _ _|exact Kd.Q_nil _ _ _ _ _|exact Kd.S_nil _ _ _ _ _⟩, ⟨by repeat (first|(with_reducible first|exact HB.out|apply below_alloc|apply pw_below_drewN|apply below_drew1)|exact HB.out)⟩⟩
 case round =>
  clear H'
  try clear c1
  obtain ⟨x4_1, x5_1, x6_1, rfl, rfl, HA, HK1, HO_4, HB⟩ := hrel
  cases gk with
  | zero => exact absurd HA.out (by first|(intro h_;cases h_;done)|simp [tombolaref46_Read.l0])
  | succ k1 =>
   have H := HA.out
   clear HA
   simp only [tombolaref46_Read.l0] at H
   have HC2 := Aside0.mk H
   clear H
   go_upto_region 4 with (fail)
   go_cut [20] (fun v20 wc => ∃ (kq : Nat) (x20_1 : Bool), v20 = .bool x20_1 ∧ Aside0 (tombolaref46_Read.j1 kq l0 x4_1 x5_1 x6_1 x20_1 = some (r1, r2)) ∧ Aside0 (kq ≤ k1) ∧ Aside0 (Kd.R k29 29 wc w.heap.size (fun _ => True) u4 x4_1) ∧ Aside0 (Below w.heap.size w wc))
   case first =>
    have H := HC2.out
    clear HC2
    by_cases c3 : (wrap64 (x6_1 + 33)) ≤ (l0.length : Int)
    ·rw [if_pos c3] at H
     have c3b0 : decide ((wrap64 (x6_1 + 33)) ≤ (l0.length : Int)) = true := decide_eq_true c3
     clear c3
     (first|rw [c3b0]|rw [c3b1]|(simp only [i64_w, i32_w];rw [c3b0])|skip)
     have H' := Aside0.mk H
     clear H
     obtain ⟨Ao4, co4, eo4⟩ := Kd.R_slice HO_4.out
     subst eo4
     go_wp2
     go_meet
     case rel => exact ⟨_, (decide ((x4_1.length : Int) < 4096)), (by first|rfl|(simp;done)|(simp [*];done)), H', ⟨by have := HK1.out;first|omega|exact Nat.le_refl _⟩, ⟨by (with_reducible repeat (first|apply Kd.R_alloc|apply Kd.R_drewN|apply Kd.R_drew));exact HO_4.out⟩, ⟨by repeat (first|(with_reducible first|exact HB.out|apply below_alloc|apply pw_below_drewN|apply below_drew1)|exact HB.out)⟩⟩
    ·rw [if_neg c3] at H
     have c3b0 : decide ((wrap64 (x6_1 + 33)) ≤ (l0.length : Int)) = false := decide_eq_false c3
     clear c3
     (first|rw [c3b0]|rw [c3b1]|(simp only [i64_w, i32_w];rw [c3b0])|skip)
     have H' := Aside0.mk H
     clear H
     go_wp2
     go_meet
     case rel => exact ⟨_, (false), (by first|rfl|(simp;done)|(simp [*];done)), H', ⟨by have := HK1.out;first|omega|exact Nat.le_refl _⟩, ⟨by (with_reducible repeat (first|apply Kd.R_alloc|apply Kd.R_drewN|apply Kd.R_drew));exact HO_4.out⟩, ⟨by repeat (first|(with_reducible first|exact HB.out|apply below_alloc|apply pw_below_drewN|apply below_drew1)|exact HB.out)⟩⟩
   case rest => as_aux_lemma =>
    clear HC2
    try clear c1
    try clear p2
    try clear c3
    try clear c3b0
    try clear c3b1
    obtain ⟨kq, x20_1, rfl, HA, HJ1, HO_4, HB⟩ := hcut
    cases kq with
    | zero => exact absurd HA.out (by first|(intro h_;cases h_;done)|simp [tombolaref46_Read.j1])
    | succ kj1 =>
     have H := HA.out
     clear HA
     simp only [tombolaref46_Read.j1] at H
     obtain ⟨M0, hM0⟩ : ∃ x_ : List Int, x_ = ((l0.take ((wrap64 (x6_1 + 33)) : Int).toNat).drop (x6_1 : Int).toNat) := ⟨_, rfl⟩
     (try rw [← hM0] at H)
     have HM0 := Aside0.mk hM0
     clear hM0
     obtain ⟨M1, hM1⟩ : ∃ x_ : List Int, x_ = (M0.drop 1) := ⟨_, rfl⟩
     (try rw [← hM1] at H)
     have HM1 := Aside0.mk hM1
     clear hM1
     obtain ⟨M9, hM9⟩ : ∃ x_ : List Int, x_ = (M0.drop 9) := ⟨_, rfl⟩
     (try rw [← hM9] at H)
     have HM9 := Aside0.mk hM9
     clear hM9
     obtain ⟨M17, hM17⟩ : ∃ x_ : List Int, x_ = (M0.drop 17) := ⟨_, rfl⟩
     (try rw [← hM17] at H)
     have HM17 := Aside0.mk hM17
     clear hM17
     by_cases c5 : x20_1 = true
     ·subst c5
      have H1 : (if 0 ≤ x6_1 then (if x6_1 ≤ (wrap64 (x6_1 + 33)) then (if (wrap64 (x6_1 + 33)) ≤ (l0.length : Int) then (if 0 < (M0.length : Int) then (if 1 ≤ (M0.length : Int) then ((tombolaref46_number.f kj1 M1).bind fun t104 => (if 9 ≤ (M0.length : Int) then ((tombolaref46_number.f kj1 M9).bind fun t106 => (if 17 ≤ (M0.length : Int) then ((tombolaref46_number.f kj1 M17).bind fun t108 => ((tombolaref46_Frame.f kj1 x5_1 (wrap64 (rd M0 0)) (wrap64 (t104)) (wrap64 (t106)) (wrap64 (t108))).bind fun bt110 => ((tombolaref31_Name.f (wrap64 (rd M0 0))).bind fun t114 => (if t114.toList = ([] : List UInt8) then (some (x4_1, x6_1)) else (if (strOfNums bt110.1).toList = (strOfNums M0).toList then (if x4_1.length < 4398046511104 then (tombolaref46_Read.l0 kj1 l0 (x4_1 ++ [(⟨wrap64 (rd M0 0), wrap64 (t104), wrap64 (t106), wrap64 (t108)⟩ : S29)]) bt110.2 (wrap64 (x6_1 + 33))) else (none)) else (some (x4_1, x6_1))))))) else (none))) else (none))) else (none)) else (none)) else (none)) else (none)) else (none)) = some (r1, r2) := by rw [if_pos rfl] at H;exact H
      clear H
      have H := H1
      clear H1
      by_cases c6 : 0 ≤ x6_1
      ·rw [if_pos c6] at H
       have c6b0 := eq_true c6
       have c6b1 : decide (0 ≤ x6_1) = true := decide_eq_true c6
       clear c6
       by_cases c7 : x6_1 ≤ (wrap64 (x6_1 + 33))
       ·rw [if_pos c7] at H
        have c7b0 := eq_true c7
        have c7b1 : decide (x6_1 ≤ (wrap64 (x6_1 + 33))) = true := decide_eq_true c7
        by_cases c8 : (wrap64 (x6_1 + 33)) ≤ (l0.length : Int)
        ·rw [if_pos c8] at H
         have c8b0 := eq_true c8
         have c8b1 : decide ((wrap64 (x6_1 + 33)) ≤ (l0.length : Int)) = true := decide_eq_true c8
         by_cases c9 : 0 < (M0.length : Int)
         ·rw [if_pos c9] at H
          have c9b0 : decide (0 < (M0.length : Int)) = true := decide_eq_true c9
          have c9b1 : decide (0 < M0.length) = true := decide_eq_true (by omega)
          clear c9
          by_cases c10 : 1 ≤ (M0.length : Int)
          ·rw [if_pos c10] at H
           have c10b0 := eq_true c10
           have c10b1 : decide (1 ≤ (M0.length : Int)) = true := decide_eq_true c10
           replace H := Option.bind_eq_some_iff.mp H
           obtain ⟨t104, A110, H⟩ := H
           replace H : (if 9 ≤ (M0.length : Int) then ((tombolaref46_number.f kj1 M9).bind fun t106 => (if 17 ≤ (M0.length : Int) then ((tombolaref46_number.f kj1 M17).bind fun t108 => ((tombolaref46_Frame.f kj1 x5_1 (wrap64 (rd M0 0)) (wrap64 (t104)) (wrap64 (t106)) (wrap64 (t108))).bind fun bt110 => ((tombolaref31_Name.f (wrap64 (rd M0 0))).bind fun t114 => (if t114.toList = ([] : List UInt8) then (some (x4_1, x6_1)) else (if (strOfNums bt110.1).toList = (strOfNums M0).toList then (if x4_1.length < 4398046511104 then (tombolaref46_Read.l0 kj1 l0 (x4_1 ++ [(⟨wrap64 (rd M0 0), wrap64 (t104), wrap64 (t106), wrap64 (t108)⟩ : S29)]) bt110.2 (wrap64 (x6_1 + 33))) else (none)) else (some (x4_1, x6_1))))))) else (none))) else (none)) = some (r1, r2) := H
           have A11 := Aside0.mk A110
           clear A110
           by_cases c12 : 9 ≤ (M0.length : Int)
           ·rw [if_pos c12] at H
            have c12b0 := eq_true c12
            have c12b1 : decide (9 ≤ (M0.length : Int)) = true := decide_eq_true c12
            replace H := Option.bind_eq_some_iff.mp H
            obtain ⟨t106, A130, H⟩ := H
            replace H : (if 17 ≤ (M0.length : Int) then ((tombolaref46_number.f kj1 M17).bind fun t108 => ((tombolaref46_Frame.f kj1 x5_1 (wrap64 (rd M0 0)) (wrap64 (t104)) (wrap64 (t106)) (wrap64 (t108))).bind fun bt110 => ((tombolaref31_Name.f (wrap64 (rd M0 0))).bind fun t114 => (if t114.toList = ([] : List UInt8) then (some (x4_1, x6_1)) else (if (strOfNums bt110.1).toList = (strOfNums M0).toList then (if x4_1.length < 4398046511104 then (tombolaref46_Read.l0 kj1 l0 (x4_1 ++ [(⟨wrap64 (rd M0 0), wrap64 (t104), wrap64 (t106), wrap64 (t108)⟩ : S29)]) bt110.2 (wrap64 (x6_1 + 33))) else (none)) else (some (x4_1, x6_1))))))) else (none)) = some (r1, r2) := H
            have A13 := Aside0.mk A130
            clear A130
            by_cases c14 : 17 ≤ (M0.length : Int)
            ·rw [if_pos c14] at H
             have c14b0 := eq_true c14
             have c14b1 : decide (17 ≤ (M0.length : Int)) = true := decide_eq_true c14
             replace H := Option.bind_eq_some_iff.mp H
             obtain ⟨t108, A150, H⟩ := H
             replace H : ((tombolaref46_Frame.f kj1 x5_1 (wrap64 (rd M0 0)) (wrap64 (t104)) (wrap64 (t106)) (wrap64 (t108))).bind fun bt110 => ((tombolaref31_Name.f (wrap64 (rd M0 0))).bind fun t114 => (if t114.toList = ([] : List UInt8) then (some (x4_1, x6_1)) else (if (strOfNums bt110.1).toList = (strOfNums M0).toList then (if x4_1.length < 4398046511104 then (tombolaref46_Read.l0 kj1 l0 (x4_1 ++ [(⟨wrap64 (rd M0 0), wrap64 (t104), wrap64 (t106), wrap64 (t108)⟩ : S29)]) bt110.2 (wrap64 (x6_1 + 33))) else (none)) else (some (x4_1, x6_1)))))) = some (r1, r2) := H
             have A15 := Aside0.mk A150
             clear A150
             replace H := Option.bind_eq_some_iff.mp H
             obtain ⟨⟨t110, t113⟩, A160, H⟩ := H
             replace H : ((tombolaref31_Name.f (wrap64 (rd M0 0))).bind fun t114 => (if t114.toList = ([] : List UInt8) then (some (x4_1, x6_1)) else (if (strOfNums t110).toList = (strOfNums M0).toList then (if x4_1.length < 4398046511104 then (tombolaref46_Read.l0 kj1 l0 (x4_1 ++ [(⟨wrap64 (rd M0 0), wrap64 (t104), wrap64 (t106), wrap64 (t108)⟩ : S29)]) t113 (wrap64 (x6_1 + 33))) else (none)) else (some (x4_1, x6_1))))) = some (r1, r2) := H
             have A16 := Aside0.mk A160
             clear A160
             replace H := Option.bind_eq_some_iff.mp H
             obtain ⟨t114, A170, H⟩ := H
             replace H : (if t114.toList = ([] : List UInt8) then (some (x4_1, x6_1)) else (if (strOfNums t110).toList = (strOfNums M0).toList then (if x4_1.length < 4398046511104 then (tombolaref46_Read.l0 kj1 l0 (x4_1 ++ [(⟨wrap64 (rd M0 0), wrap64 (t104), wrap64 (t106), wrap64 (t108)⟩ : S29)]) t113 (wrap64 (x6_1 + 33))) else (none)) else (some (x4_1, x6_1)))) = some (r1, r2) := H
             have A17 := Aside0.mk A170
             clear A170
             by_cases c18 : t114.toList = ([] : List UInt8)
             ·rw [if_pos c18] at H
              have c18b0 : (t114.toList == ([] : List UInt8)) = true := beq_iff_eq.mpr c18
              have c18b1 : (t114.toList != ([] : List UInt8)) = false := bne_eq_false_iff_eq.mpr c18
              clear c18
              simp only [Option.some.injEq, Prod.mk.injEq] at H
              obtain ⟨rfl, rfl⟩ := H
              obtain ⟨i019, hi019, _, hsz19, _⟩ := info_parts info5
              obtain ⟨A19, hcut19, hA19, hC19⟩ := print_mid_of (P := Tryd.prog) (Value.int .u8) 0 30 5 .i64 .i64 Tryd.underlying30 hi019 hsz19 A0 c0 l0 x6_1 (wrap64 (x6_1 + 33)) (of_decide_eq_true (by first|(with_reducible assumption)|assumption)) (by first|omega|exact of_decide_eq_true (by first|(with_reducible assumption)|assumption)) (of_decide_eq_true (by first|(with_reducible assumption)|assumption)) HC0.out
              (try simp only [Int.reduceToNat] at hcut19 hA19 hC19)
              (try rw [← HM0.out] at hcut19)
              (try rw [← HM0.out] at hA19)
              (try rw [← HM0.out] at hC19)
              (try rw [← HM1.out] at hcut19)
              (try rw [← HM1.out] at hA19)
              (try rw [← HM1.out] at hC19)
              (try rw [← HM9.out] at hcut19)
              (try rw [← HM9.out] at hA19)
              (try rw [← HM9.out] at hC19)
              (try rw [← HM17.out] at hcut19)
              (try rw [← HM17.out] at hA19)
              (try rw [← HM17.out] at hC19)
              have HR101 := Aside0.mk (Kd.C_of_reads (h1 := fun _ => rfl) (hA19 _ (Kd.reads_of_C HR0.out)))
              have HC101 := Aside0.mk hC19
              clear hA19 hC19 hi019 hsz19
              try go_wp2
              have n0_ := Aside0.mk (Kd.R_drew HO_4.out)
              have n1_ := Aside0.mk (below_drew1 HB.out)
              clear HO_4
              clear HB
              have HO_4 := n0_
              have HB := n1_
              clear n0_ n1_
              have p102 : 0 ≤ (0 : Int) := (by omega)
              have q102 : 0 < (M0.length : Int) := of_decide_eq_true (by first|(with_reducible assumption)|assumption)
              obtain ⟨ad102, e102, hx102_0⟩ := Kd.at_int HR101.out 0 p102 q102
              have hw102_0 := hx102_0
              (try rw [show ((0 : Int)).toNat = 0 from rfl] at hw102_0)
              (try rw [show 0 * 1 = 0 from rfl] at hw102_0)
              (try rw [Addr.add_zero'] at hw102_0)
              cases e102
              have qi102 : (0 < M0.length) = True := eq_true (by omega)
              (try rw [show ((0 : Int)).toNat = 0 from rfl] at hx102_0)
              (try rw [Addr.add_zero'] at hx102_0)
              replace hx102_0 := (HB.out.cell (World.block_lt_of_cell? w _ hx102_0)).trans hx102_0
              replace p102 := eq_true p102
              replace q102 := eq_true q102
              obtain ⟨i021, hi021, _, hsz21, _⟩ := info_parts info5
              obtain ⟨A21, hcut21, hA21, hC21⟩ := print_drop_of (P := Tryd.prog) (Value.int .u8) 0 30 5 .i64 Tryd.underlying30 hi021 hsz21 (some ad102) (c0 - x6_1.toNat) M0 1 (by omega) (of_decide_eq_true (by first|(with_reducible assumption)|assumption)) HC101.out
              (try simp only [Int.reduceToNat] at hcut21 hA21 hC21)
              (try rw [← HM0.out] at hcut21)
              (try rw [← HM0.out] at hA21)
              (try rw [← HM0.out] at hC21)
              (try rw [← HM1.out] at hcut21)
              (try rw [← HM1.out] at hA21)
              (try rw [← HM1.out] at hC21)
              (try rw [← HM9.out] at hcut21)
              (try rw [← HM9.out] at hA21)
              (try rw [← HM9.out] at hC21)
              (try rw [← HM17.out] at hcut21)
              (try rw [← HM17.out] at hA21)
              (try rw [← HM17.out] at hC21)
              have HR103 := Aside0.mk (Kd.C_of_reads (h1 := fun _ => rfl) (hA21 _ (Kd.reads_of_C HR101.out)))
              have HC103 := Aside0.mk hC21
              clear hA21 hC21 hi021 hsz21
              obtain ⟨i022, hi022, _, hsz22, _⟩ := info_parts info5
              obtain ⟨A22, hcut22, hA22, hC22⟩ := print_drop_of (P := Tryd.prog) (Value.int .u8) 0 30 5 .i64 Tryd.underlying30 hi022 hsz22 (some ad102) (c0 - x6_1.toNat) M0 9 (by omega) (of_decide_eq_true (by first|(with_reducible assumption)|assumption)) HC101.out
              (try simp only [Int.reduceToNat] at hcut22 hA22 hC22)
              (try rw [← HM0.out] at hcut22)
              (try rw [← HM0.out] at hA22)
              (try rw [← HM0.out] at hC22)
              (try rw [← HM1.out] at hcut22)
              (try rw [← HM1.out] at hA22)
              (try rw [← HM1.out] at hC22)
              (try rw [← HM9.out] at hcut22)
              (try rw [← HM9.out] at hA22)
              (try rw [← HM9.out] at hC22)
              (try rw [← HM17.out] at hcut22)
              (try rw [← HM17.out] at hA22)
              (try rw [← HM17.out] at hC22)
              have HR105 := Aside0.mk (Kd.C_of_reads (h1 := fun _ => rfl) (hA22 _ (Kd.reads_of_C HR101.out)))
              have HC105 := Aside0.mk hC22
              clear hA22 hC22 hi022 hsz22
              obtain ⟨i023, hi023, _, hsz23, _⟩ := info_parts info5
              obtain ⟨A23, hcut23, hA23, hC23⟩ := print_drop_of (P := Tryd.prog) (Value.int .u8) 0 30 5 .i64 Tryd.underlying30 hi023 hsz23 (some ad102) (c0 - x6_1.toNat) M0 17 (by omega) (of_decide_eq_true (by first|(with_reducible assumption)|assumption)) HC101.out
              (try simp only [Int.reduceToNat] at hcut23 hA23 hC23)
              (try rw [← HM0.out] at hcut23)
              (try rw [← HM0.out] at hA23)
              (try rw [← HM0.out] at hC23)
              (try rw [← HM1.out] at hcut23)
              (try rw [← HM1.out] at hA23)
              (try rw [← HM1.out] at hC23)
              (try rw [← HM9.out] at hcut23)
              (try rw [← HM9.out] at hA23)
              (try rw [← HM9.out] at hC23)
              (try rw [← HM17.out] at hcut23)
              (try rw [← HM17.out] at hA23)
              (try rw [← HM17.out] at hC23)
              have HR107 := Aside0.mk (Kd.C_of_reads (h1 := fun _ => rfl) (hA23 _ (Kd.reads_of_C HR101.out)))
              have HC107 := Aside0.mk hC23
              clear hA23 hC23 hi023 hsz23
              refine start_ (n := 19) (S := fun w' => w'.cell? ad102 = some (.int .u8 (rd M0 0))) (ds := []) #[false, false, false, false, false, false, false, false, false, false, false, false, false, false, false, false, false, false, false] (by kernel_rfl) rfl rfl (((HB.out.cell (World.block_lt_of_cell? w _ hw102_0)).trans hw102_0)) (fun hHeld => ?_);refine with_tabW tombolaref46_Read.tab6 tombolaref46_Read.bits6 (fun HT_ HW_ => ?_)
              generalize wc.drew = w20 at HO_4 HB HR103 HR105 HR107 hx102_0 hHeld ⊢
              refine pure_ (i := 0) (N := some 26) (v := ?_) (a' := ?_) #[true, false, false, false, false, false, false, false, false, false, false, false, false, false, false, false, false, false, false] rfl rfl (any_of HT_.out (by kernel_rfl)) (fun _ _ _ h => h) (Or.inl ⟨by rfl, ?_⟩) ?_ ?_
              rotate_left
              ·intro w'
               go_simp
               with_reducible rfl
              rotate_left
              ·simp only [Act.put, List.setIfInBounds_toArray, List.set_cons_zero, List.set_cons_succ, i64_w, i32_w]
               rfl
              refine pure_ (i := 1) (N := some 27) (v := ?_) (a' := ?_) #[true, true, false, false, false, false, false, false, false, false, false, false, false, false, false, false, false, false, false] rfl rfl (any_of HT_.out (by kernel_rfl)) (fun _ _ _ h => h) (Or.inl ⟨by rfl, ?_⟩) ?_ ?_
              rotate_left
              ·intro w'
               go_simp
               with_reducible rfl
              rotate_left
              ·simp only [Act.put, List.setIfInBounds_toArray, List.set_cons_zero, List.set_cons_succ, i64_w, i32_w]
               rfl
              refine pure_ (i := 4) (N := some 30) (v := ?_) (a' := ?_) #[true, true, false, false, true, false, false, false, false, false, false, false, false, false, false, false, false, false, false] rfl rfl (any_of HT_.out (by kernel_rfl)) (fun _ _ _ h => h) (Or.inl ⟨by rfl, ?_⟩) ?_ ?_
              rotate_left
              ·intro w'
               go_simp
               with_reducible rfl
              rotate_left
              ·simp only [Act.put, List.setIfInBounds_toArray, List.set_cons_zero, List.set_cons_succ, i64_w, i32_w]
               rfl
              refine pure_ (i := 5) (N := some 31) (v := ?_) (a' := ?_) #[true, true, false, false, true, true, false, false, false, false, false, false, false, false, false, false, false, false, false] rfl rfl (any_of HT_.out (by kernel_rfl)) (fun _ _ _ h => h) (Or.inl ⟨by rfl, ?_⟩) ?_ ?_
              rotate_left
              ·intro w'
               go_simp
               with_reducible rfl
              rotate_left
              ·simp only [Act.put, List.setIfInBounds_toArray, List.set_cons_zero, List.set_cons_succ, i64_w, i32_w]
               rfl
              refine pure_ (i := 8) (N := some 34) (v := ?_) (a' := ?_) #[true, true, false, false, true, true, false, false, true, false, false, false, false, false, false, false, false, false, false] rfl rfl (any_of HT_.out (by kernel_rfl)) (fun _ _ _ h => h) (Or.inl ⟨by rfl, ?_⟩) ?_ ?_
              rotate_left
              ·intro w'
               go_simp
               with_reducible rfl
              rotate_left
              ·simp only [Act.put, List.setIfInBounds_toArray, List.set_cons_zero, List.set_cons_succ, i64_w, i32_w]
               rfl
              refine pure_ (i := 9) (N := some 35) (v := ?_) (a' := ?_) #[true, true, false, false, true, true, false, false, true, true, false, false, false, false, false, false, false, false, false] rfl rfl (any_of HT_.out (by kernel_rfl)) (fun _ _ _ h => h) (Or.inl ⟨by rfl, ?_⟩) ?_ ?_
              rotate_left
              ·intro w'
               go_simp
               with_reducible rfl
              rotate_left
              ·simp only [Act.put, List.setIfInBounds_toArray, List.set_cons_zero, List.set_cons_succ, i64_w, i32_w]
               rfl
              refine pure_ (i := 12) (N := some 38) (v := ?_) (a' := ?_) #[true, true, false, false, true, true, false, false, true, true, false, false, true, false, false, false, false, false, false] rfl rfl (any_of HT_.out (by kernel_rfl)) (fun _ _ _ h => h) (Or.inl ⟨by rfl, ?_⟩) ?_ ?_
              rotate_left
              ·intro w'
               go_simp
               with_reducible rfl
              rotate_left
              ·simp only [Act.put, List.setIfInBounds_toArray, List.set_cons_zero, List.set_cons_succ, i64_w, i32_w]
               rfl
              refine pure_ (i := 13) (N := some 39) (v := ?_) (a' := ?_) #[true, true, false, false, true, true, false, false, true, true, false, false, true, true, false, false, false, false, false] rfl rfl (any_of HT_.out (by kernel_rfl)) (fun _ _ _ h => h) (Or.inl ⟨by rfl, ?_⟩) ?_ ?_
              rotate_left
              ·intro w'
               go_simp
               with_reducible rfl
              rotate_left
              ·simp only [Act.put, List.setIfInBounds_toArray, List.set_cons_zero, List.set_cons_succ, i64_w, i32_w]
               rfl
              refine take_ (i := 2) (N := some 28) (v := ?_) (a' := ?_) #[true, true, true, false, true, true, false, false, true, true, false, false, true, true, false, false, false, false, false] rfl rfl (take_ofW HT_.out HW_.out (by kernel_rfl)) (fun _ _ _ h => h) (Or.inl ⟨by rfl, ?_⟩) hHeld ?_ ?_
              rotate_left
              ·intro w' s0
               go_simp
               with_reducible rfl
              rotate_left
              ·simp only [Act.put, List.setIfInBounds_toArray, List.set_cons_zero, List.set_cons_succ, i64_w, i32_w]
               rfl
              refine pure_ (i := 3) (N := some 29) (v := ?_) (a' := ?_) #[true, true, true, true, true, true, false, false, true, true, false, false, true, true, false, false, false, false, false] rfl rfl (any_of HT_.out (by kernel_rfl)) (fun _ _ _ h => h) (Or.inl ⟨by rfl, ?_⟩) ?_ ?_
              rotate_left
              ·intro w'
               go_simp
               with_reducible rfl
              rotate_left
              ·simp only [Act.put, List.setIfInBounds_toArray, List.set_cons_zero, List.set_cons_succ, i64_w, i32_w]
               rfl
              refine join_ (σ := Nat) 1 #[true, true, true, true, true, true, true, true, true, true, true, true, true, true, true, true, true, true, false] (fun s_ => [(32, .int .u64 t104), (36, .int .u64 t106), (40, .int .u64 t108), (8, .pointer (some ⟨s_, 0, none⟩)), (33, .int .i64 (wrap64 (t104))), (37, .int .i64 (wrap64 (t106))), (41, .int .i64 (wrap64 (t108))), (42, .agg #[.int .i64 (wrap64 (rd M0 0)), .int .i64 (wrap64 (t104)), .int .i64 (wrap64 (t106)), .int .i64 (wrap64 (t108))])]) (fun s_ w' => (w'.cell? ad102 = some (.int .u8 (rd M0 0))) ∧ (Kd.R k29 29 w' w.heap.size (fun k_ => k_ ≠ s_) u4 x4_1) ∧ (w'.heap[s_]? = some (.cells #[.int .i64 0, .int .i64 0, .int .i64 0, .int .i64 0] 29 (0, 0))) ∧ (w.heap.size ≤ s_) ∧ (w.heap.size ≤ s_) ∧ (Below w.heap.size w w')) ?_ ?_
              rotate_left
              ·intro hCont
               refine two_ (i := 6) (j := 17) (Ni := some 32) (Nj := some 8) #[true, true, true, true, true, true, true, false, true, true, false, false, true, true, false, false, false, false, false] #[true, true, true, true, true, true, false, false, true, true, false, false, true, true, false, false, false, true, false] rfl rfl rfl rfl (two_of HT_.out (by kernel_rfl)) (by decide) (by decide) (fun K hK => ?_) (fun K hK => ?_)
               ·skip
                refine goes_ Tryd.func25 (by kernel_rfl) rfl #[.slice A21 M1.length ((c0 - x6_1.toNat) - 1)] (by rfl) rfl rfl (by (try simp only [List.map_toArray, List.map_cons, List.map_nil]);first|done|(rw [show M1.length = (M0.length - 1) from List.length_drop] <;> rfl)|rfl|(simp only [List.length_drop, List.length_take];rfl)) ?_
                with_reducible refine (tombolaref46_number.calls kj1 _ _ M1 t104 _ ?side1 ?side2 A11.out).mono ?_
                (case side1 => repeat (first|exact (Kd.C_below HR103.out HB.out)|(with_reducible refine Kd.C_alloc ?_ _)|(with_reducible refine Kd.C_drewN ?_ _)|(with_reducible refine Kd.C_drew ?_)))
                (case side2 => exact HC103.out)
                rintro e w' ⟨rfl, ⟨nd, rfl⟩⟩
                refine ⟨_, rfl, ?_⟩
                refine hK.out _ _ (((HB.out.cell (World.block_lt_of_cell? w _ hw102_0)).trans hw102_0)) (fun hHeld => ?_)
                clear hK K
                refine norm_ (a' := ?_) ?_ ?_
                rotate_left
                ·show Act.put _ (some 32) _ = _
                 simp only [Act.put, List.setIfInBounds_toArray, List.set_cons_zero, List.set_cons_succ, i64_w, i32_w]
                 rfl
                refine pure_ (i := 7) (N := some 33) (v := ?_) (a' := ?_) #[true, true, true, true, true, true, true, true, true, true, false, false, true, true, false, false, false, false, false] rfl rfl (any_of HT_.out (by kernel_rfl)) (fun _ _ _ h => h) (Or.inl ⟨by rfl, ?_⟩) ?_ ?_
                rotate_left
                ·intro w'
                 go_simp
                 with_reducible rfl
                rotate_left
                ·simp only [Act.put, List.setIfInBounds_toArray, List.set_cons_zero, List.set_cons_succ, i64_w, i32_w]
                 rfl
                refine two_ (i := 10) (j := 17) (Ni := some 36) (Nj := some 8) #[true, true, true, true, true, true, true, true, true, true, true, false, true, true, false, false, false, false, false] #[true, true, true, true, true, true, true, true, true, true, false, false, true, true, false, false, false, true, false] rfl rfl rfl rfl (two_of HT_.out (by kernel_rfl)) (by decide) (by decide) (fun K hK => ?_) (fun K hK => ?_)
                ·skip
                 refine goes_ Tryd.func25 (by kernel_rfl) rfl #[.slice A22 M9.length ((c0 - x6_1.toNat) - 9)] (by rfl) rfl rfl (by (try simp only [List.map_toArray, List.map_cons, List.map_nil]);first|done|(rw [show M9.length = (M0.length - 9) from List.length_drop] <;> rfl)|rfl|(simp only [List.length_drop, List.length_take];rfl)) ?_
                 with_reducible refine (tombolaref46_number.calls kj1 _ _ M9 t106 _ ?side1 ?side2 A13.out).mono ?_
                 (case side1 => repeat (first|exact (Kd.C_below HR105.out (by repeat (first|(with_reducible first|exact HB.out|apply below_alloc|apply pw_below_drewN|apply below_drew1)|exact HB.out)))|(with_reducible refine Kd.C_alloc ?_ _)|(with_reducible refine Kd.C_drewN ?_ _)|(with_reducible refine Kd.C_drew ?_)))
                 (case side2 => exact HC105.out)
                 rintro e w' ⟨rfl, ⟨nd, rfl⟩⟩
                 refine ⟨_, rfl, ?_⟩
                 refine hK.out _ _ (((HB.out.cell (World.block_lt_of_cell? w _ hw102_0)).trans hw102_0)) (fun hHeld => ?_)
                 clear hK K
                 refine norm_ (a' := ?_) ?_ ?_
                 rotate_left
                 ·show Act.put _ (some 36) _ = _
                  simp only [Act.put, List.setIfInBounds_toArray, List.set_cons_zero, List.set_cons_succ, i64_w, i32_w]
                  rfl
                 refine pure_ (i := 11) (N := some 37) (v := ?_) (a' := ?_) #[true, true, true, true, true, true, true, true, true, true, true, true, true, true, false, false, false, false, false] rfl rfl (any_of HT_.out (by kernel_rfl)) (fun _ _ _ h => h) (Or.inl ⟨by rfl, ?_⟩) ?_ ?_
                 rotate_left
                 ·intro w'
                  go_simp
                  with_reducible rfl
                 rotate_left
                 ·simp only [Act.put, List.setIfInBounds_toArray, List.set_cons_zero, List.set_cons_succ, i64_w, i32_w]
                  rfl
                 refine two_ (i := 14) (j := 17) (Ni := some 40) (Nj := some 8) #[true, true, true, true, true, true, true, true, true, true, true, true, true, true, true, false, false, false, false] #[true, true, true, true, true, true, true, true, true, true, true, true, true, true, false, false, false, true, false] rfl rfl rfl rfl (two_of HT_.out (by kernel_rfl)) (by decide) (by decide) (fun K hK => ?_) (fun K hK => ?_)
                 ·skip
                  refine goes_ Tryd.func25 (by kernel_rfl) rfl #[.slice A23 M17.length ((c0 - x6_1.toNat) - 17)] (by rfl) rfl rfl (by (try simp only [List.map_toArray, List.map_cons, List.map_nil]);first|done|(rw [show M17.length = (M0.length - 17) from List.length_drop] <;> rfl)|rfl|(simp only [List.length_drop, List.length_take];rfl)) ?_
                  with_reducible refine (tombolaref46_number.calls kj1 _ _ M17 t108 _ ?side1 ?side2 A15.out).mono ?_
                  (case side1 => repeat (first|exact (Kd.C_below HR107.out (by repeat (first|(with_reducible first|exact HB.out|apply below_alloc|apply pw_below_drewN|apply below_drew1)|exact HB.out)))|(with_reducible refine Kd.C_alloc ?_ _)|(with_reducible refine Kd.C_drewN ?_ _)|(with_reducible refine Kd.C_drew ?_)))
                  (case side2 => exact HC107.out)
                  rintro e w' ⟨rfl, ⟨nd, rfl⟩⟩
                  refine ⟨_, rfl, ?_⟩
                  refine hK.out _ _ (((HB.out.cell (World.block_lt_of_cell? w _ hw102_0)).trans hw102_0)) (fun hHeld => ?_)
                  clear hK K
                  refine norm_ (a' := ?_) ?_ ?_
                  rotate_left
                  ·show Act.put _ (some 40) _ = _
                   simp only [Act.put, List.setIfInBounds_toArray, List.set_cons_zero, List.set_cons_succ, i64_w, i32_w]
                   rfl
                  refine pure_ (i := 15) (N := some 41) (v := ?_) (a' := ?_) #[true, true, true, true, true, true, true, true, true, true, true, true, true, true, true, true, false, false, false] rfl rfl (any_of HT_.out (by kernel_rfl)) (fun _ _ _ h => h) (Or.inl ⟨by rfl, ?_⟩) ?_ ?_
                  rotate_left
                  ·intro w'
                   go_simp
                   with_reducible rfl
                  rotate_left
                  ·simp only [Act.put, List.setIfInBounds_toArray, List.set_cons_zero, List.set_cons_succ, i64_w, i32_w]
                   rfl
                  refine pure_ (i := 16) (N := some 42) (v := ?_) (a' := ?_) #[true, true, true, true, true, true, true, true, true, true, true, true, true, true, true, true, true, false, false] rfl rfl (any_of HT_.out (by kernel_rfl)) (fun _ _ _ h => h) (Or.inl ⟨by rfl, ?_⟩) ?_ ?_
                  rotate_left
                  ·intro w'
                   go_simp
                   with_reducible rfl
                  rotate_left
                  ·simp only [Act.put, List.setIfInBounds_toArray, List.set_cons_zero, List.set_cons_succ, i64_w, i32_w]
                   rfl
                  refine one_ (i := 17) (N := some 8) #[true, true, true, true, true, true, true, true, true, true, true, true, true, true, true, true, true, true, false] rfl rfl (one_of HT_.out (by kernel_rfl)) (by decide) (fun K hK => ?_)
                  refine box_step ?hg (N := 8) ?hd (cs := #[.int .i64 0, .int .i64 0, .int .i64 0, .int .i64 0]) (t := 29) ?hr ?_;(case hd => rfl);(case hg => rfl);(case hr => first|(go_simp;done)|(go_simp;rfl))
                  intro gb109 hg w24 hbox hb
                  have n0_ := Aside0.mk (Kd.R_below (Kd.R_elderB (by (with_reducible repeat (first|apply Kd.R_alloc|apply Kd.R_drewN|apply Kd.R_drew));exact HO_4.out) gb109 (Nat.le_of_eq hg.symm)) hb)
                  have n1_ := Aside0.mk (below_step (by repeat (first|(with_reducible first|exact HB.out|apply below_alloc|apply pw_below_drewN|apply below_drew1)|exact HB.out)) hb)
                  have n2_ := Aside0.mk (hbox)
                  have n3_ := Aside0.mk ((by rw [hg];exact (below_size (by repeat (first|(with_reducible first|exact HB.out|apply below_alloc|apply pw_below_drewN|apply below_drew1)|exact HB.out))) : w.heap.size ≤ gb109))
                  have n4_ := Aside0.mk ((by rw [hg];exact (below_size (by repeat (first|(with_reducible first|exact HB.out|apply below_alloc|apply pw_below_drewN|apply below_drew1)|exact HB.out))) : w.heap.size ≤ gb109))
                  clear HO_4
                  clear HB
                  have HO_4 := n0_
                  have HB := n1_
                  have BK109 := n2_
                  have GW109 := n3_
                  have GE109 := n4_
                  clear n0_ n1_ n2_ n3_ n4_
                  clear hb hbox hg
                  refine hK.out _ _ (((HB.out.cell (World.block_lt_of_cell? w _ hw102_0)).trans hw102_0)) (fun hHeld => ?_)
                  clear hK K
                  refine norm_ (a' := ?_) ?_ ?_
                  rotate_left
                  ·show Act.put _ (some 8) _ = _
                   simp only [Act.put, List.setIfInBounds_toArray, List.set_cons_zero, List.set_cons_succ, i64_w, i32_w]
                   rfl
                  exact norm_ (by simp only [putAll, Act.put, List.setIfInBounds_toArray, List.set_cons_zero, List.set_cons_succ]) (hCont (gb109) _ ⟨hHeld, (by (with_reducible repeat (first|apply Kd.R_alloc|apply Kd.R_drewN|apply Kd.R_drew));exact Kd.R_mono HO_4.out (fun _ hk => hk.2)), (by (with_reducible repeat (first|refine blk_drewN ?_ _|refine blk_drew ?_|refine blk_alloc ?_ _));exact BK109.out), GW109.out, GE109.out, (by repeat (first|(with_reducible first|exact HB.out|apply below_alloc|apply pw_below_drewN|apply below_drew1|refine below_set ?_ GE109.out)|exact HB.out))⟩)
                 ·skip
                  refine box_step ?hg (N := 8) ?hd (cs := #[.int .i64 0, .int .i64 0, .int .i64 0, .int .i64 0]) (t := 29) ?hr ?_;(case hd => rfl);(case hg => rfl);(case hr => first|(go_simp;done)|(go_simp;rfl))
                  intro gb109 hg w24 hbox hb
                  have n0_ := Aside0.mk (Kd.R_below (Kd.R_elderB (by (with_reducible repeat (first|apply Kd.R_alloc|apply Kd.R_drewN|apply Kd.R_drew));exact HO_4.out) gb109 (Nat.le_of_eq hg.symm)) hb)
                  have n1_ := Aside0.mk (below_step (by repeat (first|(with_reducible first|exact HB.out|apply below_alloc|apply pw_below_drewN|apply below_drew1)|exact HB.out)) hb)
                  have n2_ := Aside0.mk (hbox)
                  have n3_ := Aside0.mk ((by rw [hg];exact (below_size (by repeat (first|(with_reducible first|exact HB.out|apply below_alloc|apply pw_below_drewN|apply below_drew1)|exact HB.out))) : w.heap.size ≤ gb109))
                  have n4_ := Aside0.mk ((by rw [hg];exact (below_size (by repeat (first|(with_reducible first|exact HB.out|apply below_alloc|apply pw_below_drewN|apply below_drew1)|exact HB.out))) : w.heap.size ≤ gb109))
                  clear HO_4
                  clear HB
                  have HO_4 := n0_
                  have HB := n1_
                  have BK109 := n2_
                  have GW109 := n3_
                  have GE109 := n4_
                  clear n0_ n1_ n2_ n3_ n4_
                  clear hb hbox hg
                  refine hK.out _ _ (((HB.out.cell (World.block_lt_of_cell? w _ hw102_0)).trans hw102_0)) (fun hHeld => ?_)
                  clear hK K
                  refine norm_ (a' := ?_) ?_ ?_
                  rotate_left
                  ·show Act.put _ (some 8) _ = _
                   simp only [Act.put, List.setIfInBounds_toArray, List.set_cons_zero, List.set_cons_succ, i64_w, i32_w]
                   rfl
                  refine one_ (i := 14) (N := some 40) #[true, true, true, true, true, true, true, true, true, true, true, true, true, true, true, false, false, true, false] rfl rfl (one_of HT_.out (by kernel_rfl)) (by decide) (fun K hK => ?_)
                  refine goes_ Tryd.func25 (by kernel_rfl) rfl #[.slice A23 M17.length ((c0 - x6_1.toNat) - 17)] (by rfl) rfl rfl (by (try simp only [List.map_toArray, List.map_cons, List.map_nil]);first|done|(rw [show M17.length = (M0.length - 17) from List.length_drop] <;> rfl)|rfl|(simp only [List.length_drop, List.length_take];rfl)) ?_
                  with_reducible refine (tombolaref46_number.calls kj1 _ _ M17 t108 _ ?side1 ?side2 A15.out).mono ?_
                  (case side1 => repeat (first|exact (Kd.C_below HR107.out HB.out)|(with_reducible refine Kd.C_alloc ?_ _)|(with_reducible refine Kd.C_drewN ?_ _)|(with_reducible refine Kd.C_drew ?_)))
                  (case side2 => exact HC107.out)
                  rintro e w' ⟨rfl, ⟨nd, rfl⟩⟩
                  refine ⟨_, rfl, ?_⟩
                  refine hK.out _ _ (((HB.out.cell (World.block_lt_of_cell? w _ hw102_0)).trans hw102_0)) (fun hHeld => ?_)
                  clear hK K
                  refine norm_ (a' := ?_) ?_ ?_
                  rotate_left
                  ·show Act.put _ (some 40) _ = _
                   simp only [Act.put, List.setIfInBounds_toArray, List.set_cons_zero, List.set_cons_succ, i64_w, i32_w]
                   rfl
                  refine pure_ (i := 15) (N := some 41) (v := ?_) (a' := ?_) #[true, true, true, true, true, true, true, true, true, true, true, true, true, true, true, true, false, true, false] rfl rfl (any_of HT_.out (by kernel_rfl)) (fun _ _ _ h => h) (Or.inl ⟨by rfl, ?_⟩) ?_ ?_
                  rotate_left
                  ·intro w'
                   go_simp
                   with_reducible rfl
                  rotate_left
                  ·simp only [Act.put, List.setIfInBounds_toArray, List.set_cons_zero, List.set_cons_succ, i64_w, i32_w]
                   rfl
                  refine pure_ (i := 16) (N := some 42) (v := ?_) (a' := ?_) #[true, true, true, true, true, true, true, true, true, true, true, true, true, true, true, true, true, true, false] rfl rfl (any_of HT_.out (by kernel_rfl)) (fun _ _ _ h => h) (Or.inl ⟨by rfl, ?_⟩) ?_ ?_
                  rotate_left
                  ·intro w'
                   go_simp
                   with_reducible rfl
                  rotate_left
                  ·simp only [Act.put, List.setIfInBounds_toArray, List.set_cons_zero, List.set_cons_succ, i64_w, i32_w]
                   rfl
                  exact norm_ (by simp only [putAll, Act.put, List.setIfInBounds_toArray, List.set_cons_zero, List.set_cons_succ]) (hCont (gb109) _ ⟨hHeld, (by (with_reducible repeat (first|apply Kd.R_alloc|apply Kd.R_drewN|apply Kd.R_drew));exact Kd.R_mono HO_4.out (fun _ hk => hk.2)), (by (with_reducible repeat (first|refine blk_drewN ?_ _|refine blk_drew ?_|refine blk_alloc ?_ _));exact BK109.out), GW109.out, GE109.out, (by repeat (first|(with_reducible first|exact HB.out|apply below_alloc|apply pw_below_drewN|apply below_drew1|refine below_set ?_ GE109.out)|exact HB.out))⟩)
                ·skip
                 refine box_step ?hg (N := 8) ?hd (cs := #[.int .i64 0, .int .i64 0, .int .i64 0, .int .i64 0]) (t := 29) ?hr ?_;(case hd => rfl);(case hg => rfl);(case hr => first|(go_simp;done)|(go_simp;rfl))
                 intro gb109 hg w24 hbox hb
                 have n0_ := Aside0.mk (Kd.R_below (Kd.R_elderB (by (with_reducible repeat (first|apply Kd.R_alloc|apply Kd.R_drewN|apply Kd.R_drew));exact HO_4.out) gb109 (Nat.le_of_eq hg.symm)) hb)
                 have n1_ := Aside0.mk (below_step (by repeat (first|(with_reducible first|exact HB.out|apply below_alloc|apply pw_below_drewN|apply below_drew1)|exact HB.out)) hb)
                 have n2_ := Aside0.mk (hbox)
                 have n3_ := Aside0.mk ((by rw [hg];exact (below_size (by repeat (first|(with_reducible first|exact HB.out|apply below_alloc|apply pw_below_drewN|apply below_drew1)|exact HB.out))) : w.heap.size ≤ gb109))
                 have n4_ := Aside0.mk ((by rw [hg];exact (below_size (by repeat (first|(with_reducible first|exact HB.out|apply below_alloc|apply pw_below_drewN|apply below_drew1)|exact HB.out))) : w.heap.size ≤ gb109))
                 clear HO_4
                 clear HB
                 have HO_4 := n0_
                 have HB := n1_
                 have BK109 := n2_
                 have GW109 := n3_
                 have GE109 := n4_
                 clear n0_ n1_ n2_ n3_ n4_
                 clear hb hbox hg
                 refine hK.out _ _ (((HB.out.cell (World.block_lt_of_cell? w _ hw102_0)).trans hw102_0)) (fun hHeld => ?_)
                 clear hK K
                 refine norm_ (a' := ?_) ?_ ?_
                 rotate_left
                 ·show Act.put _ (some 8) _ = _
                  simp only [Act.put, List.setIfInBounds_toArray, List.set_cons_zero, List.set_cons_succ, i64_w, i32_w]
                  rfl
                 refine one_ (i := 10) (N := some 36) #[true, true, true, true, true, true, true, true, true, true, true, false, true, true, false, false, false, true, false] rfl rfl (one_of HT_.out (by kernel_rfl)) (by decide) (fun K hK => ?_)
                 refine goes_ Tryd.func25 (by kernel_rfl) rfl #[.slice A22 M9.length ((c0 - x6_1.toNat) - 9)] (by rfl) rfl rfl (by (try simp only [List.map_toArray, List.map_cons, List.map_nil]);first|done|(rw [show M9.length = (M0.length - 9) from List.length_drop] <;> rfl)|rfl|(simp only [List.length_drop, List.length_take];rfl)) ?_
                 with_reducible refine (tombolaref46_number.calls kj1 _ _ M9 t106 _ ?side1 ?side2 A13.out).mono ?_
                 (case side1 => repeat (first|exact (Kd.C_below HR105.out HB.out)|(with_reducible refine Kd.C_alloc ?_ _)|(with_reducible refine Kd.C_drewN ?_ _)|(with_reducible refine Kd.C_drew ?_)))
                 (case side2 => exact HC105.out)
                 rintro e w' ⟨rfl, ⟨nd, rfl⟩⟩
                 refine ⟨_, rfl, ?_⟩
                 refine hK.out _ _ (((HB.out.cell (World.block_lt_of_cell? w _ hw102_0)).trans hw102_0)) (fun hHeld => ?_)
                 clear hK K
                 refine norm_ (a' := ?_) ?_ ?_
                 rotate_left
                 ·show Act.put _ (some 36) _ = _
                  simp only [Act.put, List.setIfInBounds_toArray, List.set_cons_zero, List.set_cons_succ, i64_w, i32_w]
                  rfl
                 refine pure_ (i := 11) (N := some 37) (v := ?_) (a' := ?_) #[true, true, true, true, true, true, true, true, true, true, true, true, true, true, false, false, false, true, false] rfl rfl (any_of HT_.out (by kernel_rfl)) (fun _ _ _ h => h) (Or.inl ⟨by rfl, ?_⟩) ?_ ?_
                 rotate_left
                 ·intro w'
                  go_simp
                  with_reducible rfl
                 rotate_left
                 ·simp only [Act.put, List.setIfInBounds_toArray, List.set_cons_zero, List.set_cons_succ, i64_w, i32_w]
                  rfl
                 refine one_ (i := 14) (N := some 40) #[true, true, true, true, true, true, true, true, true, true, true, true, true, true, true, false, false, true, false] rfl rfl (one_of HT_.out (by kernel_rfl)) (by decide) (fun K hK => ?_)
                 refine goes_ Tryd.func25 (by kernel_rfl) rfl #[.slice A23 M17.length ((c0 - x6_1.toNat) - 17)] (by rfl) rfl rfl (by (try simp only [List.map_toArray, List.map_cons, List.map_nil]);first|done|(rw [show M17.length = (M0.length - 17) from List.length_drop] <;> rfl)|rfl|(simp only [List.length_drop, List.length_take];rfl)) ?_
                 with_reducible refine (tombolaref46_number.calls kj1 _ _ M17 t108 _ ?side1 ?side2 A15.out).mono ?_
                 (case side1 => repeat (first|exact (Kd.C_below HR107.out (by repeat (first|(with_reducible first|exact HB.out|apply below_alloc|apply pw_below_drewN|apply below_drew1|refine below_set ?_ GE109.out)|exact HB.out)))|(with_reducible refine Kd.C_alloc ?_ _)|(with_reducible refine Kd.C_drewN ?_ _)|(with_reducible refine Kd.C_drew ?_)))
                 (case side2 => exact HC107.out)
                 rintro e w' ⟨rfl, ⟨nd, rfl⟩⟩
                 refine ⟨_, rfl, ?_⟩
                 refine hK.out _ _ (((HB.out.cell (World.block_lt_of_cell? w _ hw102_0)).trans hw102_0)) (fun hHeld => ?_)
                 clear hK K
                 refine norm_ (a' := ?_) ?_ ?_
                 rotate_left
                 ·show Act.put _ (some 40) _ = _
                  simp only [Act.put, List.setIfInBounds_toArray, List.set_cons_zero, List.set_cons_succ, i64_w, i32_w]
                  rfl
                 refine pure_ (i := 15) (N := some 41) (v := ?_) (a' := ?_) #[true, true, true, true, true, true, true, true, true, true, true, true, true, true, true, true, false, true, false] rfl rfl (any_of HT_.out (by kernel_rfl)) (fun _ _ _ h => h) (Or.inl ⟨by rfl, ?_⟩) ?_ ?_
                 rotate_left
                 ·intro w'
                  go_simp
                  with_reducible rfl
                 rotate_left
                 ·simp only [Act.put, List.setIfInBounds_toArray, List.set_cons_zero, List.set_cons_succ, i64_w, i32_w]
                  rfl
                 refine pure_ (i := 16) (N := some 42) (v := ?_) (a' := ?_) #[true, true, true, true, true, true, true, true, true, true, true, true, true, true, true, true, true, true, false] rfl rfl (any_of HT_.out (by kernel_rfl)) (fun _ _ _ h => h) (Or.inl ⟨by rfl, ?_⟩) ?_ ?_
                 rotate_left
                 ·intro w'
                  go_simp
                  with_reducible rfl
                 rotate_left
                 ·simp only [Act.put, List.setIfInBounds_toArray, List.set_cons_zero, List.set_cons_succ, i64_w, i32_w]
                  rfl
                 exact norm_ (by simp only [putAll, Act.put, List.setIfInBounds_toArray, List.set_cons_zero, List.set_cons_succ]) (hCont (gb109) _ ⟨hHeld, (by (with_reducible repeat (first|apply Kd.R_alloc|apply Kd.R_drewN|apply Kd.R_drew));exact Kd.R_mono HO_4.out (fun _ hk => hk.2)), (by (with_reducible repeat (first|refine blk_drewN ?_ _|refine blk_drew ?_|refine blk_alloc ?_ _));exact BK109.out), GW109.out, GE109.out, (by repeat (first|(with_reducible first|exact HB.out|apply below_alloc|apply pw_below_drewN|apply below_drew1|refine below_set ?_ GE109.out)|exact HB.out))⟩)
               ·skip
                refine box_step ?hg (N := 8) ?hd (cs := #[.int .i64 0, .int .i64 0, .int .i64 0, .int .i64 0]) (t := 29) ?hr ?_;(case hd => rfl);(case hg => rfl);(case hr => first|(go_simp;done)|(go_simp;rfl))
                intro gb109 hg w24 hbox hb
                have n0_ := Aside0.mk (Kd.R_below (Kd.R_elderB (by (with_reducible repeat (first|apply Kd.R_alloc|apply Kd.R_drewN|apply Kd.R_drew));exact HO_4.out) gb109 (Nat.le_of_eq hg.symm)) hb)
                have n1_ := Aside0.mk (below_step (by repeat (first|(with_reducible first|exact HB.out|apply below_alloc|apply pw_below_drewN|apply below_drew1)|exact HB.out)) hb)
                have n2_ := Aside0.mk (hbox)
                have n3_ := Aside0.mk ((by rw [hg];exact (below_size (by repeat (first|(with_reducible first|exact HB.out|apply below_alloc|apply pw_below_drewN|apply below_drew1)|exact HB.out))) : w.heap.size ≤ gb109))
                have n4_ := Aside0.mk ((by rw [hg];exact (below_size (by repeat (first|(with_reducible first|exact HB.out|apply below_alloc|apply pw_below_drewN|apply below_drew1)|exact HB.out))) : w.heap.size ≤ gb109))
                clear HO_4
                clear HB
                have HO_4 := n0_
                have HB := n1_
                have BK109 := n2_
                have GW109 := n3_
                have GE109 := n4_
                clear n0_ n1_ n2_ n3_ n4_
                clear hb hbox hg
                refine hK.out _ _ (((HB.out.cell (World.block_lt_of_cell? w _ hw102_0)).trans hw102_0)) (fun hHeld => ?_)
                clear hK K
                refine norm_ (a' := ?_) ?_ ?_
                rotate_left
                ·show Act.put _ (some 8) _ = _
                 simp only [Act.put, List.setIfInBounds_toArray, List.set_cons_zero, List.set_cons_succ, i64_w, i32_w]
                 rfl
                refine one_ (i := 6) (N := some 32) #[true, true, true, true, true, true, true, false, true, true, false, false, true, true, false, false, false, true, false] rfl rfl (one_of HT_.out (by kernel_rfl)) (by decide) (fun K hK => ?_)
                refine goes_ Tryd.func25 (by kernel_rfl) rfl #[.slice A21 M1.length ((c0 - x6_1.toNat) - 1)] (by rfl) rfl rfl (by (try simp only [List.map_toArray, List.map_cons, List.map_nil]);first|done|(rw [show M1.length = (M0.length - 1) from List.length_drop] <;> rfl)|rfl|(simp only [List.length_drop, List.length_take];rfl)) ?_
                with_reducible refine (tombolaref46_number.calls kj1 _ _ M1 t104 _ ?side1 ?side2 A11.out).mono ?_
                (case side1 => repeat (first|exact (Kd.C_below HR103.out HB.out)|(with_reducible refine Kd.C_alloc ?_ _)|(with_reducible refine Kd.C_drewN ?_ _)|(with_reducible refine Kd.C_drew ?_)))
                (case side2 => exact HC103.out)
                rintro e w' ⟨rfl, ⟨nd, rfl⟩⟩
                refine ⟨_, rfl, ?_⟩
                refine hK.out _ _ (((HB.out.cell (World.block_lt_of_cell? w _ hw102_0)).trans hw102_0)) (fun hHeld => ?_)
                clear hK K
                refine norm_ (a' := ?_) ?_ ?_
                rotate_left
                ·show Act.put _ (some 32) _ = _
                 simp only [Act.put, List.setIfInBounds_toArray, List.set_cons_zero, List.set_cons_succ, i64_w, i32_w]
                 rfl
                refine pure_ (i := 7) (N := some 33) (v := ?_) (a' := ?_) #[true, true, true, true, true, true, true, true, true, true, false, false, true, true, false, false, false, true, false] rfl rfl (any_of HT_.out (by kernel_rfl)) (fun _ _ _ h => h) (Or.inl ⟨by rfl, ?_⟩) ?_ ?_
                rotate_left
                ·intro w'
                 go_simp
                 with_reducible rfl
                rotate_left
                ·simp only [Act.put, List.setIfInBounds_toArray, List.set_cons_zero, List.set_cons_succ, i64_w, i32_w]
                 rfl
                refine one_ (i := 10) (N := some 36) #[true, true, true, true, true, true, true, true, true, true, true, false, true, true, false, false, false, true, false] rfl rfl (one_of HT_.out (by kernel_rfl)) (by decide) (fun K hK => ?_)
                refine goes_ Tryd.func25 (by kernel_rfl) rfl #[.slice A22 M9.length ((c0 - x6_1.toNat) - 9)] (by rfl) rfl rfl (by (try simp only [List.map_toArray, List.map_cons, List.map_nil]);first|done|(rw [show M9.length = (M0.length - 9) from List.length_drop] <;> rfl)|rfl|(simp only [List.length_drop, List.length_take];rfl)) ?_
                with_reducible refine (tombolaref46_number.calls kj1 _ _ M9 t106 _ ?side1 ?side2 A13.out).mono ?_
                (case side1 => repeat (first|exact (Kd.C_below HR105.out (by repeat (first|(with_reducible first|exact HB.out|apply below_alloc|apply pw_below_drewN|apply below_drew1|refine below_set ?_ GE109.out)|exact HB.out)))|(with_reducible refine Kd.C_alloc ?_ _)|(with_reducible refine Kd.C_drewN ?_ _)|(with_reducible refine Kd.C_drew ?_)))
                (case side2 => exact HC105.out)
                rintro e w' ⟨rfl, ⟨nd, rfl⟩⟩
                refine ⟨_, rfl, ?_⟩
                refine hK.out _ _ (((HB.out.cell (World.block_lt_of_cell? w _ hw102_0)).trans hw102_0)) (fun hHeld => ?_)
                clear hK K
                refine norm_ (a' := ?_) ?_ ?_
                rotate_left
                ·show Act.put _ (some 36) _ = _
                 simp only [Act.put, List.setIfInBounds_toArray, List.set_cons_zero, List.set_cons_succ, i64_w, i32_w]
                 rfl
                refine pure_ (i := 11) (N := some 37) (v := ?_) (a' := ?_) #[true, true, true, true, true, true, true, true, true, true, true, true, true, true, false, false, false, true, false] rfl rfl (any_of HT_.out (by kernel_rfl)) (fun _ _ _ h => h) (Or.inl ⟨by rfl, ?_⟩) ?_ ?_
                rotate_left
                ·intro w'
                 go_simp
                 with_reducible rfl
                rotate_left
                ·simp only [Act.put, List.setIfInBounds_toArray, List.set_cons_zero, List.set_cons_succ, i64_w, i32_w]
                 rfl
                refine one_ (i := 14) (N := some 40) #[true, true, true, true, true, true, true, true, true, true, true, true, true, true, true, false, false, true, false] rfl rfl (one_of HT_.out (by kernel_rfl)) (by decide) (fun K hK => ?_)
                refine goes_ Tryd.func25 (by kernel_rfl) rfl #[.slice A23 M17.length ((c0 - x6_1.toNat) - 17)] (by rfl) rfl rfl (by (try simp only [List.map_toArray, List.map_cons, List.map_nil]);first|done|(rw [show M17.length = (M0.length - 17) from List.length_drop] <;> rfl)|rfl|(simp only [List.length_drop, List.length_take];rfl)) ?_
                with_reducible refine (tombolaref46_number.calls kj1 _ _ M17 t108 _ ?side1 ?side2 A15.out).mono ?_
                (case side1 => repeat (first|exact (Kd.C_below HR107.out (by repeat (first|(with_reducible first|exact HB.out|apply below_alloc|apply pw_below_drewN|apply below_drew1|refine below_set ?_ GE109.out)|exact HB.out)))|(with_reducible refine Kd.C_alloc ?_ _)|(with_reducible refine Kd.C_drewN ?_ _)|(with_reducible refine Kd.C_drew ?_)))
                (case side2 => exact HC107.out)
                rintro e w' ⟨rfl, ⟨nd, rfl⟩⟩
                refine ⟨_, rfl, ?_⟩
                refine hK.out _ _ (((HB.out.cell (World.block_lt_of_cell? w _ hw102_0)).trans hw102_0)) (fun hHeld => ?_)
                clear hK K
                refine norm_ (a' := ?_) ?_ ?_
                rotate_left
                ·show Act.put _ (some 40) _ = _
                 simp only [Act.put, List.setIfInBounds_toArray, List.set_cons_zero, List.set_cons_succ, i64_w, i32_w]
                 rfl
                refine pure_ (i := 15) (N := some 41) (v := ?_) (a' := ?_) #[true, true, true, true, true, true, true, true, true, true, true, true, true, true, true, true, false, true, false] rfl rfl (any_of HT_.out (by kernel_rfl)) (fun _ _ _ h => h) (Or.inl ⟨by rfl, ?_⟩) ?_ ?_
                rotate_left
                ·intro w'
                 go_simp
                 with_reducible rfl
                rotate_left
                ·simp only [Act.put, List.setIfInBounds_toArray, List.set_cons_zero, List.set_cons_succ, i64_w, i32_w]
                 rfl
                refine pure_ (i := 16) (N := some 42) (v := ?_) (a' := ?_) #[true, true, true, true, true, true, true, true, true, true, true, true, true, true, true, true, true, true, false] rfl rfl (any_of HT_.out (by kernel_rfl)) (fun _ _ _ h => h) (Or.inl ⟨by rfl, ?_⟩) ?_ ?_
                rotate_left
                ·intro w'
                 go_simp
                 with_reducible rfl
                rotate_left
                ·simp only [Act.put, List.setIfInBounds_toArray, List.set_cons_zero, List.set_cons_succ, i64_w, i32_w]
                 rfl
                exact norm_ (by simp only [putAll, Act.put, List.setIfInBounds_toArray, List.set_cons_zero, List.set_cons_succ]) (hCont (gb109) _ ⟨hHeld, (by (with_reducible repeat (first|apply Kd.R_alloc|apply Kd.R_drewN|apply Kd.R_drew));exact Kd.R_mono HO_4.out (fun _ hk => hk.2)), (by (with_reducible repeat (first|refine blk_drewN ?_ _|refine blk_drew ?_|refine blk_alloc ?_ _));exact BK109.out), GW109.out, GE109.out, (by repeat (first|(with_reducible first|exact HB.out|apply below_alloc|apply pw_below_drewN|apply below_drew1|refine below_set ?_ GE109.out)|exact HB.out))⟩)
              rintro gb109 w25 ⟨hS_, h0_, h1_, h2_, h3_, h4_⟩
              have n0_ : Aside0 (Kd.R k29 29 w25 w.heap.size (fun k_ => k_ ≠ gb109) u4 x4_1) := ⟨h0_⟩
              have n1_ : Aside0 (w25.heap[gb109]? = some (.cells #[.int .i64 0, .int .i64 0, .int .i64 0, .int .i64 0] 29 (0, 0))) := ⟨h1_⟩
              have n2_ : Aside0 (w.heap.size ≤ gb109) := ⟨h2_⟩
              have n3_ : Aside0 (w.heap.size ≤ gb109) := ⟨h3_⟩
              have n4_ : Aside0 (Below w.heap.size w w25) := ⟨h4_⟩
              clear HO_4
              clear HB
              clear h0_ h1_ h2_ h3_ h4_
              have HO_4 := n0_
              have BK109 := n1_
              have GW109 := n2_
              have GE109 := n3_
              have HB := n4_
              clear n0_ n1_ n2_ n3_ n4_
              have hHeld : w25.cell? ad102 = some (.int .u8 (rd M0 0)) := hS_
              refine norm_ (a' := ?_) ?_ ?_
              rotate_left
              ·simp only [putAll, Act.put, List.setIfInBounds_toArray, List.set_cons_zero, List.set_cons_succ]
               rfl
              refine one_ (i := 18) (N := none) #[true, true, true, true, true, true, true, true, true, true, true, true, true, true, true, true, true, true, true] rfl rfl (one_of HT_.out (by kernel_rfl)) (by decide) (fun K hK => ?_)
              have hs26 : w25.cell? ⟨gb109, 0, none⟩ = some (.int .i64 0) := (blk_cell BK109.out 0).trans rfl
              have hfs26 := blk_frozen BK109.out 0
              have hs27 : w25.cell? ⟨gb109, 1, none⟩ = some (.int .i64 0) := (blk_cell BK109.out 1).trans rfl
              have hfs27 := blk_frozen BK109.out 1
              have hs28 : w25.cell? ⟨gb109, 2, none⟩ = some (.int .i64 0) := (blk_cell BK109.out 2).trans rfl
              have hfs28 := blk_frozen BK109.out 2
              have hs29 : w25.cell? ⟨gb109, 3, none⟩ = some (.int .i64 0) := (blk_cell BK109.out 3).trans rfl
              have hfs29 := blk_frozen BK109.out 3
              refine skip_ (w1 := ?_) (by rfl) rfl ?_ ?_
              rotate_left
              ·go_simp
               rfl
              refine hK.out _ _ (((cell_far (p := ⟨gb109, _, none⟩) (by first|exact Nat.ne_of_lt (Nat.lt_of_lt_of_le (by have := World.block_lt_of_cell? _ _ hw102_0;first|rwa [add_block] at this|exact this) GW109.out)|(rw [add_block];exact Nat.ne_of_lt (Nat.lt_of_lt_of_le (by have := World.block_lt_of_cell? _ _ hw102_0;first|rwa [add_block] at this|exact this) GW109.out))|(show (Addr.add _ _).block ≠ _;rw [add_block];exact Nat.ne_of_lt (Nat.lt_of_lt_of_le (by have := World.block_lt_of_cell? _ _ hw102_0;first|rwa [add_block] at this|exact this) GW109.out))|(dsimp only;exact Nat.ne_of_lt (Nat.lt_of_lt_of_le (by have := World.block_lt_of_cell? _ _ hw102_0;first|rwa [add_block] at this|exact this) GW109.out))) _).trans (((cell_far (p := ⟨gb109, _, none⟩) (by first|exact Nat.ne_of_lt (Nat.lt_of_lt_of_le (by have := World.block_lt_of_cell? _ _ hw102_0;first|rwa [add_block] at this|exact this) GW109.out)|(rw [add_block];exact Nat.ne_of_lt (Nat.lt_of_lt_of_le (by have := World.block_lt_of_cell? _ _ hw102_0;first|rwa [add_block] at this|exact this) GW109.out))|(show (Addr.add _ _).block ≠ _;rw [add_block];exact Nat.ne_of_lt (Nat.lt_of_lt_of_le (by have := World.block_lt_of_cell? _ _ hw102_0;first|rwa [add_block] at this|exact this) GW109.out))|(dsimp only;exact Nat.ne_of_lt (Nat.lt_of_lt_of_le (by have := World.block_lt_of_cell? _ _ hw102_0;first|rwa [add_block] at this|exact this) GW109.out))) _).trans (((cell_far (p := ⟨gb109, _, none⟩) (by first|exact Nat.ne_of_lt (Nat.lt_of_lt_of_le (by have := World.block_lt_of_cell? _ _ hw102_0;first|rwa [add_block] at this|exact this) GW109.out)|(rw [add_block];exact Nat.ne_of_lt (Nat.lt_of_lt_of_le (by have := World.block_lt_of_cell? _ _ hw102_0;first|rwa [add_block] at this|exact this) GW109.out))|(show (Addr.add _ _).block ≠ _;rw [add_block];exact Nat.ne_of_lt (Nat.lt_of_lt_of_le (by have := World.block_lt_of_cell? _ _ hw102_0;first|rwa [add_block] at this|exact this) GW109.out))|(dsimp only;exact Nat.ne_of_lt (Nat.lt_of_lt_of_le (by have := World.block_lt_of_cell? _ _ hw102_0;first|rwa [add_block] at this|exact this) GW109.out))) _).trans (((cell_far (p := ⟨gb109, _, none⟩) (by first|exact Nat.ne_of_lt (Nat.lt_of_lt_of_le (by have := World.block_lt_of_cell? _ _ hw102_0;first|rwa [add_block] at this|exact this) GW109.out)|(rw [add_block];exact Nat.ne_of_lt (Nat.lt_of_lt_of_le (by have := World.block_lt_of_cell? _ _ hw102_0;first|rwa [add_block] at this|exact this) GW109.out))|(show (Addr.add _ _).block ≠ _;rw [add_block];exact Nat.ne_of_lt (Nat.lt_of_lt_of_le (by have := World.block_lt_of_cell? _ _ hw102_0;first|rwa [add_block] at this|exact this) GW109.out))|(dsimp only;exact Nat.ne_of_lt (Nat.lt_of_lt_of_le (by have := World.block_lt_of_cell? _ _ hw102_0;first|rwa [add_block] at this|exact this) GW109.out))) _).trans (hHeld))))))))) (fun hHeld => ?_)
              clear hK K
              refine done_ (done_of HT_.out (by kernel_rfl)) ?_
              have hcz30_0 : w25.cell? ⟨gb109, 0, none⟩ = some (.int .i64 0) := (blk_cell BK109.out 0).trans rfl
              have hcz30_1 : w25.cell? ⟨gb109, 1, none⟩ = some (.int .i64 0) := (blk_cell BK109.out 1).trans rfl
              have hcz30_2 : w25.cell? ⟨gb109, 2, none⟩ = some (.int .i64 0) := (blk_cell BK109.out 2).trans rfl
              have hcz30_3 : w25.cell? ⟨gb109, 3, none⟩ = some (.int .i64 0) := (blk_cell BK109.out 3).trans rfl
              have hfz30_0 := blk_frozen BK109.out 0
              have hfz30_1 := blk_frozen BK109.out 1
              have hfz30_2 := blk_frozen BK109.out 2
              have hfz30_3 := blk_frozen BK109.out 3
              try go_wp2_with (first|((with_reducible refine gate_callee (f := 13) rfl ?_);refine goesL_ (some 46) rfl rfl Tryd.func13 (by kernel_rfl) rfl #[.int .u64 x5_1, .agg #[.int .i64 (wrap64 (rd M0 0)), .int .i64 (wrap64 (t104)), .int .i64 (wrap64 (t106)), .int .i64 (wrap64 (t108))]] rfl (by (try simp only [List.map_toArray, List.map_cons, List.map_nil]);first|done|rfl|(simp only [List.length_drop, List.length_take];rfl)) ?_;(with_reducible refine (tombolaref46_Frame.calls kj1 x5_1 (wrap64 (rd M0 0)) (wrap64 (t104)) (wrap64 (t106)) (wrap64 (t108)) t110 t113 _ A16.out).mono ?_);rintro e w31 ⟨v111, rfl, ho0, hb⟩;refine ⟨_, rfl, ?_⟩;have n0_ := Aside0.mk (Kd.R_below (by (with_reducible repeat (first|apply Kd.R_alloc|apply Kd.R_drewN|apply Kd.R_drew));exact (Kd.R_mono (Kd.R_far (p := ⟨gb109, 3, none⟩) (Kd.R_far (p := ⟨gb109, 2, none⟩) (Kd.R_far (p := ⟨gb109, 1, none⟩) (Kd.R_far (p := ⟨gb109, 0, none⟩) (Kd.R_mono HO_4.out (fun k_ hk => (⟨hk, hk⟩ : _ ∧ k_ ≠ gb109))) (fun _ hk => hk.2) (.int .i64 (wrap64 (rd M0 0)))) (fun _ hk => hk.2) (.int .i64 (wrap64 (t104)))) (fun _ hk => hk.2) (.int .i64 (wrap64 (t106)))) (fun _ hk => hk.2) (.int .i64 (wrap64 (t108)))) (fun _ h_ => h_.1))) hb);have n1_ := Aside0.mk (Kd.R_lower ho0 (below_size (by repeat (first|(with_reducible first|exact HB.out|apply below_alloc|apply pw_below_drewN|apply below_drew1|refine below_set ?_ GE109.out)|exact HB.out))));have n2_ := Aside0.mk (blk_below (g := gb109) (o := .cells #[.int .i64 (wrap64 (rd M0 0)), .int .i64 (wrap64 (t104)), .int .i64 (wrap64 (t106)), .int .i64 (wrap64 (t108))] 29 (0, 0)) (by (with_reducible repeat (first|refine blk_drewN ?_ _|refine blk_drew ?_|refine blk_alloc ?_ _));refine blk_put (cs := #[.int .i64 (wrap64 (rd M0 0)), .int .i64 (wrap64 (t104)), .int .i64 (wrap64 (t106)), .int .i64 0]) ?_ 3 _ rfl;(with_reducible repeat (first|refine blk_drewN ?_ _|refine blk_drew ?_|refine blk_alloc ?_ _));refine blk_put (cs := #[.int .i64 (wrap64 (rd M0 0)), .int .i64 (wrap64 (t104)), .int .i64 0, .int .i64 0]) ?_ 2 _ rfl;(with_reducible repeat (first|refine blk_drewN ?_ _|refine blk_drew ?_|refine blk_alloc ?_ _));refine blk_put (cs := #[.int .i64 (wrap64 (rd M0 0)), .int .i64 0, .int .i64 0, .int .i64 0]) ?_ 1 _ rfl;(with_reducible repeat (first|refine blk_drewN ?_ _|refine blk_drew ?_|refine blk_alloc ?_ _));refine blk_put (cs := #[.int .i64 0, .int .i64 0, .int .i64 0, .int .i64 0]) ?_ 0 _ rfl;(with_reducible repeat (first|refine blk_drewN ?_ _|refine blk_drew ?_|refine blk_alloc ?_ _));exact BK109.out) hb);have n3_ := Aside0.mk (below_step (by repeat (first|(with_reducible first|exact HB.out|apply below_alloc|apply pw_below_drewN|apply below_drew1|refine below_set ?_ GE109.out)|exact HB.out)) hb);clear HO_4;clear BK109;clear HB;have HO_4 := n0_;have HO112 := n1_;have BK109 := n2_;have HB := n3_;clear n0_ n1_ n2_ n3_;(try clear hb);(try clear hb2);(try clear hk);(try clear hi);(try clear ho0);have hcz32_0 : w31.cell? ⟨gb109, 0, none⟩ = some (.int .i64 (wrap64 (rd M0 0))) := (blk_cell BK109.out 0).trans rfl;have hcz32_1 : w31.cell? ⟨gb109, 1, none⟩ = some (.int .i64 (wrap64 (t104))) := (blk_cell BK109.out 1).trans rfl;have hcz32_2 : w31.cell? ⟨gb109, 2, none⟩ = some (.int .i64 (wrap64 (t106))) := (blk_cell BK109.out 2).trans rfl;have hcz32_3 : w31.cell? ⟨gb109, 3, none⟩ = some (.int .i64 (wrap64 (t108))) := (blk_cell BK109.out 3).trans rfl;have hfz32_0 := blk_frozen BK109.out 0;have hfz32_1 := blk_frozen BK109.out 1;have hfz32_2 := blk_frozen BK109.out 2;have hfz32_3 := blk_frozen BK109.out 3)|((with_reducible refine gate_callee (f := 15) rfl ?_);refine goesL_ (some 51) rfl rfl Tryd.func15 (by kernel_rfl) rfl #[.int .i64 (wrap64 (rd M0 0))] rfl (by (try simp only [List.map_toArray, List.map_cons, List.map_nil]);first|done|rfl|(simp only [List.length_drop, List.length_take];rfl)) ?_;(with_reducible refine (tombolaref31_Name.calls (wrap64 (rd M0 0)) t114 _ A17.out).mono ?_);rintro e w33 ⟨rfl, hb⟩;refine ⟨_, rfl, ?_⟩;have n0_ := Aside0.mk (Kd.R_below (by (with_reducible repeat (first|apply Kd.R_alloc|apply Kd.R_drewN|apply Kd.R_drew));exact HO_4.out) hb);have n1_ := Aside0.mk (Kd.R_below (by (with_reducible repeat (first|apply Kd.R_alloc|apply Kd.R_drewN|apply Kd.R_drew));exact HO112.out) hb);have n2_ := Aside0.mk (blk_below (g := gb109) (o := .cells #[.int .i64 (wrap64 (rd M0 0)), .int .i64 (wrap64 (t104)), .int .i64 (wrap64 (t106)), .int .i64 (wrap64 (t108))] 29 (0, 0)) (by (with_reducible repeat (first|refine blk_drewN ?_ _|refine blk_drew ?_|refine blk_alloc ?_ _));exact BK109.out) hb);have n3_ := Aside0.mk (below_step (by repeat (first|(with_reducible first|exact HB.out|apply below_alloc|apply pw_below_drewN|apply below_drew1|refine below_set ?_ GE109.out)|exact HB.out)) hb);clear HO_4;clear HO112;clear BK109;clear HB;have HO_4 := n0_;have HO112 := n1_;have BK109 := n2_;have HB := n3_;clear n0_ n1_ n2_ n3_;(try clear hb);(try clear hb2);(try clear hk);(try clear hi)))
              go_ret2
              exact ⟨_, by first|rfl|(simp [errW_none, errW_some] <;> rfl)|(simp [*, errW_none, errW_some] <;> rfl), by (with_reducible repeat (first|apply Kd.R_alloc|apply Kd.R_drewN|apply Kd.R_drew));exact Kd.R_mono HO_4.out (fun _ hk => trivial), by repeat (first|(with_reducible first|exact HB.out|apply below_alloc|apply pw_below_drewN|apply below_drew1|refine below_set ?_ GE109.out)|exact HB.out)⟩
             ·rw [if_neg c18] at H
              have c18b0 : (t114.toList == ([] : List UInt8)) = false := beq_eq_false_iff_ne.mpr c18
              have c18b1 : (t114.toList != ([] : List UInt8)) = true := bne_iff_ne.mpr c18
              by_cases c34 : (strOfNums t110).toList = (strOfNums M0).toList
              ·rw [if_pos c34] at H
               have c34b0 : ((strOfNums t110).toList == (strOfNums M0).toList) = true := beq_iff_eq.mpr c34
               have c34b1 : ((strOfNums t110).toList != (strOfNums M0).toList) = false := bne_eq_false_iff_eq.mpr c34
               clear c34
               by_cases c35 : x4_1.length < 4398046511104
               ·rw [if_pos c35] at H
                have LMc35 := Aside0.mk c35
                clear c35
                obtain ⟨y115, hy115⟩ : ∃ y_ : List (S29), y_ = (x4_1 ++ [(⟨wrap64 (rd M0 0), wrap64 (t104), wrap64 (t106), wrap64 (t108)⟩ : S29)]) := ⟨_, rfl⟩
                replace H : (tombolaref46_Read.l0 kj1 l0 y115 t113 (wrap64 (x6_1 + 33))) = some (r1, r2) := by first|(rw [hy115];with_reducible exact H)|(have H2_ := (Option.bind_some _ _).symm.trans H;rw [hy115];with_reducible exact H2_)|(have H2_ := (Option.bind_some _ _).symm.trans H;with_reducible exact H2_)|with_reducible exact H|(rw [hy115];exact H)|exact H
                have Ny115 := Aside0.mk hy115
                clear hy115
                have H' := Aside0.mk H
                clear H
                obtain ⟨i036, hi036, _, hsz36, _⟩ := info_parts info5
                obtain ⟨A36, hcut36, hA36, hC36⟩ := print_mid_of (P := Tryd.prog) (Value.int .u8) 0 30 5 .i64 .i64 Tryd.underlying30 hi036 hsz36 A0 c0 l0 x6_1 (wrap64 (x6_1 + 33)) (of_decide_eq_true (by first|(with_reducible assumption)|assumption)) (by first|omega|exact of_decide_eq_true (by first|(with_reducible assumption)|assumption)) (of_decide_eq_true (by first|(with_reducible assumption)|assumption)) HC0.out
                (try simp only [Int.reduceToNat] at hcut36 hA36 hC36)
                (try rw [← HM0.out] at hcut36)
                (try rw [← HM0.out] at hA36)
                (try rw [← HM0.out] at hC36)
                (try rw [← HM1.out] at hcut36)
                (try rw [← HM1.out] at hA36)
                (try rw [← HM1.out] at hC36)
                (try rw [← HM9.out] at hcut36)
                (try rw [← HM9.out] at hA36)
                (try rw [← HM9.out] at hC36)
                (try rw [← HM17.out] at hcut36)
                (try rw [← HM17.out] at hA36)
                (try rw [← HM17.out] at hC36)
                have HR101 := Aside0.mk (Kd.C_of_reads (h1 := fun _ => rfl) (hA36 _ (Kd.reads_of_C HR0.out)))
                have HC101 := Aside0.mk hC36
                clear hA36 hC36 hi036 hsz36
                try go_wp2
                have n0_ := Aside0.mk (Kd.R_drew HO_4.out)
                have n1_ := Aside0.mk (below_drew1 HB.out)
                clear HO_4
                clear HB
                have HO_4 := n0_
                have HB := n1_
                clear n0_ n1_
                have p102 : 0 ≤ (0 : Int) := (by omega)
                have q102 : 0 < (M0.length : Int) := of_decide_eq_true (by first|(with_reducible assumption)|assumption)
                obtain ⟨ad102, e102, hx102_0⟩ := Kd.at_int HR101.out 0 p102 q102
                have hw102_0 := hx102_0
                (try rw [show ((0 : Int)).toNat = 0 from rfl] at hw102_0)
                (try rw [show 0 * 1 = 0 from rfl] at hw102_0)
                (try rw [Addr.add_zero'] at hw102_0)
                cases e102
                have qi102 : (0 < M0.length) = True := eq_true (by omega)
                (try rw [show ((0 : Int)).toNat = 0 from rfl] at hx102_0)
                (try rw [Addr.add_zero'] at hx102_0)
                replace hx102_0 := (HB.out.cell (World.block_lt_of_cell? w _ hx102_0)).trans hx102_0
                replace p102 := eq_true p102
                replace q102 := eq_true q102
                obtain ⟨i038, hi038, _, hsz38, _⟩ := info_parts info5
                obtain ⟨A38, hcut38, hA38, hC38⟩ := print_drop_of (P := Tryd.prog) (Value.int .u8) 0 30 5 .i64 Tryd.underlying30 hi038 hsz38 (some ad102) (c0 - x6_1.toNat) M0 1 (by omega) (of_decide_eq_true (by first|(with_reducible assumption)|assumption)) HC101.out
                (try simp only [Int.reduceToNat] at hcut38 hA38 hC38)
                (try rw [← HM0.out] at hcut38)
                (try rw [← HM0.out] at hA38)
                (try rw [← HM0.out] at hC38)
                (try rw [← HM1.out] at hcut38)
                (try rw [← HM1.out] at hA38)
                (try rw [← HM1.out] at hC38)
                (try rw [← HM9.out] at hcut38)
                (try rw [← HM9.out] at hA38)
                (try rw [← HM9.out] at hC38)
                (try rw [← HM17.out] at hcut38)
                (try rw [← HM17.out] at hA38)
                (try rw [← HM17.out] at hC38)
                have HR103 := Aside0.mk (Kd.C_of_reads (h1 := fun _ => rfl) (hA38 _ (Kd.reads_of_C HR101.out)))
                have HC103 := Aside0.mk hC38
                clear hA38 hC38 hi038 hsz38
                obtain ⟨i039, hi039, _, hsz39, _⟩ := info_parts info5
                obtain ⟨A39, hcut39, hA39, hC39⟩ := print_drop_of (P := Tryd.prog) (Value.int .u8) 0 30 5 .i64 Tryd.underlying30 hi039 hsz39 (some ad102) (c0 - x6_1.toNat) M0 9 (by omega) (of_decide_eq_true (by first|(with_reducible assumption)|assumption)) HC101.out
                (try simp only [Int.reduceToNat] at hcut39 hA39 hC39)
                (try rw [← HM0.out] at hcut39)
                (try rw [← HM0.out] at hA39)
                (try rw [← HM0.out] at hC39)
                (try rw [← HM1.out] at hcut39)
                (try rw [← HM1.out] at hA39)
                (try rw [← HM1.out] at hC39)
                (try rw [← HM9.out] at hcut39)
                (try rw [← HM9.out] at hA39)
                (try rw [← HM9.out] at hC39)
                (try rw [← HM17.out] at hcut39)
                (try rw [← HM17.out] at hA39)
                (try rw [← HM17.out] at hC39)
                have HR105 := Aside0.mk (Kd.C_of_reads (h1 := fun _ => rfl) (hA39 _ (Kd.reads_of_C HR101.out)))
                have HC105 := Aside0.mk hC39
                clear hA39 hC39 hi039 hsz39
                obtain ⟨i040, hi040, _, hsz40, _⟩ := info_parts info5
                obtain ⟨A40, hcut40, hA40, hC40⟩ := print_drop_of (P := Tryd.prog) (Value.int .u8) 0 30 5 .i64 Tryd.underlying30 hi040 hsz40 (some ad102) (c0 - x6_1.toNat) M0 17 (by omega) (of_decide_eq_true (by first|(with_reducible assumption)|assumption)) HC101.out
                (try simp only [Int.reduceToNat] at hcut40 hA40 hC40)
                (try rw [← HM0.out] at hcut40)
                (try rw [← HM0.out] at hA40)
                (try rw [← HM0.out] at hC40)
                (try rw [← HM1.out] at hcut40)
                (try rw [← HM1.out] at hA40)
                (try rw [← HM1.out] at hC40)
                (try rw [← HM9.out] at hcut40)
                (try rw [← HM9.out] at hA40)
                (try rw [← HM9.out] at hC40)
                (try rw [← HM17.out] at hcut40)
                (try rw [← HM17.out] at hA40)
                (try rw [← HM17.out] at hC40)
                have HR107 := Aside0.mk (Kd.C_of_reads (h1 := fun _ => rfl) (hA40 _ (Kd.reads_of_C HR101.out)))
                have HC107 := Aside0.mk hC40
                clear hA40 hC40 hi040 hsz40
                refine start_ (n := 19) (S := fun w' => w'.cell? ad102 = some (.int .u8 (rd M0 0))) (ds := []) #[false, false, false, false, false, false, false, false, false, false, false, false, false, false, false, false, false, false, false] (by kernel_rfl) rfl rfl (((HB.out.cell (World.block_lt_of_cell? w _ hw102_0)).trans hw102_0)) (fun hHeld => ?_);refine with_tabW tombolaref46_Read.tab6 tombolaref46_Read.bits6 (fun HT_ HW_ => ?_)
                generalize wc.drew = w37 at HO_4 HB HR103 HR105 HR107 hx102_0 hHeld ⊢
                refine pure_ (i := 0) (N := some 26) (v := ?_) (a' := ?_) #[true, false, false, false, false, false, false, false, false, false, false, false, false, false, false, false, false, false, false] rfl rfl (any_of HT_.out (by kernel_rfl)) (fun _ _ _ h => h) (Or.inl ⟨by rfl, ?_⟩) ?_ ?_
                rotate_left
                ·intro w'
                 go_simp
                 with_reducible rfl
                rotate_left
                ·simp only [Act.put, List.setIfInBounds_toArray, List.set_cons_zero, List.set_cons_succ, i64_w, i32_w]
                 rfl
                refine pure_ (i := 1) (N := some 27) (v := ?_) (a' := ?_) #[true, true, false, false, false, false, false, false, false, false, false, false, false, false, false, false, false, false, false] rfl rfl (any_of HT_.out (by kernel_rfl)) (fun _ _ _ h => h) (Or.inl ⟨by rfl, ?_⟩) ?_ ?_
                rotate_left
                ·intro w'
                 go_simp
                 with_reducible rfl
                rotate_left
                ·simp only [Act.put, List.setIfInBounds_toArray, List.set_cons_zero, List.set_cons_succ, i64_w, i32_w]
                 rfl
                refine pure_ (i := 4) (N := some 30) (v := ?_) (a' := ?_) #[true, true, false, false, true, false, false, false, false, false, false, false, false, false, false, false, false, false, false] rfl rfl (any_of HT_.out (by kernel_rfl)) (fun _ _ _ h => h) (Or.inl ⟨by rfl, ?_⟩) ?_ ?_
                rotate_left
                ·intro w'
                 go_simp
                 with_reducible rfl
                rotate_left
                ·simp only [Act.put, List.setIfInBounds_toArray, List.set_cons_zero, List.set_cons_succ, i64_w, i32_w]
                 rfl
                refine pure_ (i := 5) (N := some 31) (v := ?_) (a' := ?_) #[true, true, false, false, true, true, false, false, false, false, false, false, false, false, false, false, false, false, false] rfl rfl (any_of HT_.out (by kernel_rfl)) (fun _ _ _ h => h) (Or.inl ⟨by rfl, ?_⟩) ?_ ?_
                rotate_left
                ·intro w'
                 go_simp
                 with_reducible rfl
                rotate_left
                ·simp only [Act.put, List.setIfInBounds_toArray, List.set_cons_zero, List.set_cons_succ, i64_w, i32_w]
                 rfl
                refine pure_ (i := 8) (N := some 34) (v := ?_) (a' := ?_) #[true, true, false, false, true, true, false, false, true, false, false, false, false, false, false, false, false, false, false] rfl rfl (any_of HT_.out (by kernel_rfl)) (fun _ _ _ h => h) (Or.inl ⟨by rfl, ?_⟩) ?_ ?_
                rotate_left
                ·intro w'
                 go_simp
                 with_reducible rfl
                rotate_left
                ·simp only [Act.put, List.setIfInBounds_toArray, List.set_cons_zero, List.set_cons_succ, i64_w, i32_w]
                 rfl
                refine pure_ (i := 9) (N := some 35) (v := ?_) (a' := ?_) #[true, true, false, false, true, true, false, false, true, true, false, false, false, false, false, false, false, false, false] rfl rfl (any_of HT_.out (by kernel_rfl)) (fun _ _ _ h => h) (Or.inl ⟨by rfl, ?_⟩) ?_ ?_
                rotate_left
                ·intro w'
                 go_simp
                 with_reducible rfl
                rotate_left
                ·simp only [Act.put, List.setIfInBounds_toArray, List.set_cons_zero, List.set_cons_succ, i64_w, i32_w]
                 rfl
                refine pure_ (i := 12) (N := some 38) (v := ?_) (a' := ?_) #[true, true, false, false, true, true, false, false, true, true, false, false, true, false, false, false, false, false, false] rfl rfl (any_of HT_.out (by kernel_rfl)) (fun _ _ _ h => h) (Or.inl ⟨by rfl, ?_⟩) ?_ ?_
                rotate_left
                ·intro w'
                 go_simp
                 with_reducible rfl
                rotate_left
                ·simp only [Act.put, List.setIfInBounds_toArray, List.set_cons_zero, List.set_cons_succ, i64_w, i32_w]
                 rfl
                refine pure_ (i := 13) (N := some 39) (v := ?_) (a' := ?_) #[true, true, false, false, true, true, false, false, true, true, false, false, true, true, false, false, false, false, false] rfl rfl (any_of HT_.out (by kernel_rfl)) (fun _ _ _ h => h) (Or.inl ⟨by rfl, ?_⟩) ?_ ?_
                rotate_left
                ·intro w'
                 go_simp
                 with_reducible rfl
                rotate_left
                ·simp only [Act.put, List.setIfInBounds_toArray, List.set_cons_zero, List.set_cons_succ, i64_w, i32_w]
                 rfl
                refine take_ (i := 2) (N := some 28) (v := ?_) (a' := ?_) #[true, true, true, false, true, true, false, false, true, true, false, false, true, true, false, false, false, false, false] rfl rfl (take_ofW HT_.out HW_.out (by kernel_rfl)) (fun _ _ _ h => h) (Or.inl ⟨by rfl, ?_⟩) hHeld ?_ ?_
                rotate_left
                ·intro w' s0
                 go_simp
                 with_reducible rfl
                rotate_left
                ·simp only [Act.put, List.setIfInBounds_toArray, List.set_cons_zero, List.set_cons_succ, i64_w, i32_w]
                 rfl
                refine pure_ (i := 3) (N := some 29) (v := ?_) (a' := ?_) #[true, true, true, true, true, true, false, false, true, true, false, false, true, true, false, false, false, false, false] rfl rfl (any_of HT_.out (by kernel_rfl)) (fun _ _ _ h => h) (Or.inl ⟨by rfl, ?_⟩) ?_ ?_
                rotate_left
                ·intro w'
                 go_simp
                 with_reducible rfl
                rotate_left
                ·simp only [Act.put, List.setIfInBounds_toArray, List.set_cons_zero, List.set_cons_succ, i64_w, i32_w]
                 rfl
                refine join_ (σ := Nat) 1 #[true, true, true, true, true, true, true, true, true, true, true, true, true, true, true, true, true, true, false] (fun s_ => [(32, .int .u64 t104), (36, .int .u64 t106), (40, .int .u64 t108), (8, .pointer (some ⟨s_, 0, none⟩)), (33, .int .i64 (wrap64 (t104))), (37, .int .i64 (wrap64 (t106))), (41, .int .i64 (wrap64 (t108))), (42, .agg #[.int .i64 (wrap64 (rd M0 0)), .int .i64 (wrap64 (t104)), .int .i64 (wrap64 (t106)), .int .i64 (wrap64 (t108))])]) (fun s_ w' => (w'.cell? ad102 = some (.int .u8 (rd M0 0))) ∧ (Kd.R k29 29 w' w.heap.size (fun k_ => k_ ≠ s_) u4 x4_1) ∧ (w'.heap[s_]? = some (.cells #[.int .i64 0, .int .i64 0, .int .i64 0, .int .i64 0] 29 (0, 0))) ∧ (w.heap.size ≤ s_) ∧ (w.heap.size ≤ s_) ∧ (Below w.heap.size w w')) ?_ ?_
                rotate_left
                ·intro hCont
                 refine two_ (i := 6) (j := 17) (Ni := some 32) (Nj := some 8) #[true, true, true, true, true, true, true, false, true, true, false, false, true, true, false, false, false, false, false] #[true, true, true, true, true, true, false, false, true, true, false, false, true, true, false, false, false, true, false] rfl rfl rfl rfl (two_of HT_.out (by kernel_rfl)) (by decide) (by decide) (fun K hK => ?_) (fun K hK => ?_)
                 ·skip
                  refine goes_ Tryd.func25 (by kernel_rfl) rfl #[.slice A38 M1.length ((c0 - x6_1.toNat) - 1)] (by rfl) rfl rfl (by (try simp only [List.map_toArray, List.map_cons, List.map_nil]);first|done|(rw [show M1.length = (M0.length - 1) from List.length_drop] <;> rfl)|rfl|(simp only [List.length_drop, List.length_take];rfl)) ?_
                  with_reducible refine (tombolaref46_number.calls kj1 _ _ M1 t104 _ ?side1 ?side2 A11.out).mono ?_
                  (case side1 => repeat (first|exact (Kd.C_below HR103.out HB.out)|(with_reducible refine Kd.C_alloc ?_ _)|(with_reducible refine Kd.C_drewN ?_ _)|(with_reducible refine Kd.C_drew ?_)))
                  (case side2 => exact HC103.out)
                  rintro e w' ⟨rfl, ⟨nd, rfl⟩⟩
                  refine ⟨_, rfl, ?_⟩
                  refine hK.out _ _ (((HB.out.cell (World.block_lt_of_cell? w _ hw102_0)).trans hw102_0)) (fun hHeld => ?_)
                  clear hK K
                  refine norm_ (a' := ?_) ?_ ?_
                  rotate_left
                  ·show Act.put _ (some 32) _ = _
                   simp only [Act.put, List.setIfInBounds_toArray, List.set_cons_zero, List.set_cons_succ, i64_w, i32_w]
                   rfl
                  refine pure_ (i := 7) (N := some 33) (v := ?_) (a' := ?_) #[true, true, true, true, true, true, true, true, true, true, false, false, true, true, false, false, false, false, false] rfl rfl (any_of HT_.out (by kernel_rfl)) (fun _ _ _ h => h) (Or.inl ⟨by rfl, ?_⟩) ?_ ?_
                  rotate_left
                  ·intro w'
                   go_simp
                   with_reducible rfl
                  rotate_left
                  ·simp only [Act.put, List.setIfInBounds_toArray, List.set_cons_zero, List.set_cons_succ, i64_w, i32_w]
                   rfl
                  refine two_ (i := 10) (j := 17) (Ni := some 36) (Nj := some 8) #[true, true, true, true, true, true, true, true, true, true, true, false, true, true, false, false, false, false, false] #[true, true, true, true, true, true, true, true, true, true, false, false, true, true, false, false, false, true, false] rfl rfl rfl rfl (two_of HT_.out (by kernel_rfl)) (by decide) (by decide) (fun K hK => ?_) (fun K hK => ?_)
                  ·skip
                   refine goes_ Tryd.func25 (by kernel_rfl) rfl #[.slice A39 M9.length ((c0 - x6_1.toNat) - 9)] (by rfl) rfl rfl (by (try simp only [List.map_toArray, List.map_cons, List.map_nil]);first|done|(rw [show M9.length = (M0.length - 9) from List.length_drop] <;> rfl)|rfl|(simp only [List.length_drop, List.length_take];rfl)) ?_
                   with_reducible refine (tombolaref46_number.calls kj1 _ _ M9 t106 _ ?side1 ?side2 A13.out).mono ?_
                   (case side1 => repeat (first|exact (Kd.C_below HR105.out (by repeat (first|(with_reducible first|exact HB.out|apply below_alloc|apply pw_below_drewN|apply below_drew1)|exact HB.out)))|(with_reducible refine Kd.C_alloc ?_ _)|(with_reducible refine Kd.C_drewN ?_ _)|(with_reducible refine Kd.C_drew ?_)))
                   (case side2 => exact HC105.out)
                   rintro e w' ⟨rfl, ⟨nd, rfl⟩⟩
                   refine ⟨_, rfl, ?_⟩
                   refine hK.out _ _ (((HB.out.cell (World.block_lt_of_cell? w _ hw102_0)).trans hw102_0)) (fun hHeld => ?_)
                   clear hK K
                   refine norm_ (a' := ?_) ?_ ?_
                   rotate_left
                   ·show Act.put _ (some 36) _ = _
                    simp only [Act.put, List.setIfInBounds_toArray, List.set_cons_zero, List.set_cons_succ, i64_w, i32_w]
                    rfl
                   refine pure_ (i := 11) (N := some 37) (v := ?_) (a' := ?_) #[true, true, true, true, true, true, true, true, true, true, true, true, true, true, false, false, false, false, false] rfl rfl (any_of HT_.out (by kernel_rfl)) (fun _ _ _ h => h) (Or.inl ⟨by rfl, ?_⟩) ?_ ?_
                   rotate_left
                   ·intro w'
                    go_simp
                    with_reducible rfl
                   rotate_left
                   ·simp only [Act.put, List.setIfInBounds_toArray, List.set_cons_zero, List.set_cons_succ, i64_w, i32_w]
                    rfl
                   refine two_ (i := 14) (j := 17) (Ni := some 40) (Nj := some 8) #[true, true, true, true, true, true, true, true, true, true, true, true, true, true, true, false, false, false, false] #[true, true, true, true, true, true, true, true, true, true, true, true, true, true, false, false, false, true, false] rfl rfl rfl rfl (two_of HT_.out (by kernel_rfl)) (by decide) (by decide) (fun K hK => ?_) (fun K hK => ?_)
                   ·skip
                    refine goes_ Tryd.func25 (by kernel_rfl) rfl #[.slice A40 M17.length ((c0 - x6_1.toNat) - 17)] (by rfl) rfl rfl (by (try simp only [List.map_toArray, List.map_cons, List.map_nil]);first|done|(rw [show M17.length = (M0.length - 17) from List.length_drop] <;> rfl)|rfl|(simp only [List.length_drop, List.length_take];rfl)) ?_
                    with_reducible refine (tombolaref46_number.calls kj1 _ _ M17 t108 _ ?side1 ?side2 A15.out).mono ?_
                    (case side1 => repeat (first|exact (Kd.C_below HR107.out (by repeat (first|(with_reducible first|exact HB.out|apply below_alloc|apply pw_below_drewN|apply below_drew1)|exact HB.out)))|(with_reducible refine Kd.C_alloc ?_ _)|(with_reducible refine Kd.C_drewN ?_ _)|(with_reducible refine Kd.C_drew ?_)))
                    (case side2 => exact HC107.out)
                    rintro e w' ⟨rfl, ⟨nd, rfl⟩⟩
                    refine ⟨_, rfl, ?_⟩
                    refine hK.out _ _ (((HB.out.cell (World.block_lt_of_cell? w _ hw102_0)).trans hw102_0)) (fun hHeld => ?_)
                    clear hK K
                    refine norm_ (a' := ?_) ?_ ?_
                    rotate_left
                    ·show Act.put _ (some 40) _ = _
                     simp only [Act.put, List.setIfInBounds_toArray, List.set_cons_zero, List.set_cons_succ, i64_w, i32_w]
                     rfl
                    refine pure_ (i := 15) (N := some 41) (v := ?_) (a' := ?_) #[true, true, true, true, true, true, true, true, true, true, true, true, true, true, true, true, false, false, false] rfl rfl (any_of HT_.out (by kernel_rfl)) (fun _ _ _ h => h) (Or.inl ⟨by rfl, ?_⟩) ?_ ?_
                    rotate_left
                    ·intro w'
                     go_simp
                     with_reducible rfl
                    rotate_left
                    ·simp only [Act.put, List.setIfInBounds_toArray, List.set_cons_zero, List.set_cons_succ, i64_w, i32_w]
                     rfl
                    refine pure_ (i := 16) (N := some 42) (v := ?_) (a' := ?_) #[true, true, true, true, true, true, true, true, true, true, true, true, true, true, true, true, true, false, false] rfl rfl (any_of HT_.out (by kernel_rfl)) (fun _ _ _ h => h) (Or.inl ⟨by rfl, ?_⟩) ?_ ?_
                    rotate_left
                    ·intro w'
                     go_simp
                     with_reducible rfl
                    rotate_left
                    ·simp only [Act.put, List.setIfInBounds_toArray, List.set_cons_zero, List.set_cons_succ, i64_w, i32_w]
                     rfl
                    refine one_ (i := 17) (N := some 8) #[true, true, true, true, true, true, true, true, true, true, true, true, true, true, true, true, true, true, false] rfl rfl (one_of HT_.out (by kernel_rfl)) (by decide) (fun K hK => ?_)
                    refine box_step ?hg (N := 8) ?hd (cs := #[.int .i64 0, .int .i64 0, .int .i64 0, .int .i64 0]) (t := 29) ?hr ?_;(case hd => rfl);(case hg => rfl);(case hr => first|(go_simp;done)|(go_simp;rfl))
                    intro gb109 hg w41 hbox hb
                    have n0_ := Aside0.mk (Kd.R_below (Kd.R_elderB (by (with_reducible repeat (first|apply Kd.R_alloc|apply Kd.R_drewN|apply Kd.R_drew));exact HO_4.out) gb109 (Nat.le_of_eq hg.symm)) hb)
                    have n1_ := Aside0.mk (below_step (by repeat (first|(with_reducible first|exact HB.out|apply below_alloc|apply pw_below_drewN|apply below_drew1)|exact HB.out)) hb)
                    have n2_ := Aside0.mk (hbox)
                    have n3_ := Aside0.mk ((by rw [hg];exact (below_size (by repeat (first|(with_reducible first|exact HB.out|apply below_alloc|apply pw_below_drewN|apply below_drew1)|exact HB.out))) : w.heap.size ≤ gb109))
                    have n4_ := Aside0.mk ((by rw [hg];exact (below_size (by repeat (first|(with_reducible first|exact HB.out|apply below_alloc|apply pw_below_drewN|apply below_drew1)|exact HB.out))) : w.heap.size ≤ gb109))
                    clear HO_4
                    clear HB
                    have HO_4 := n0_
                    have HB := n1_
                    have BK109 := n2_
                    have GW109 := n3_
                    have GE109 := n4_
                    clear n0_ n1_ n2_ n3_ n4_
                    clear hb hbox hg
                    refine hK.out _ _ (((HB.out.cell (World.block_lt_of_cell? w _ hw102_0)).trans hw102_0)) (fun hHeld => ?_)
                    clear hK K
                    refine norm_ (a' := ?_) ?_ ?_
                    rotate_left
                    ·show Act.put _ (some 8) _ = _
                     simp only [Act.put, List.setIfInBounds_toArray, List.set_cons_zero, List.set_cons_succ, i64_w, i32_w]
                     rfl
                    exact norm_ (by simp only [putAll, Act.put, List.setIfInBounds_toArray, List.set_cons_zero, List.set_cons_succ]) (hCont (gb109) _ ⟨hHeld, (by (with_reducible repeat (first|apply Kd.R_alloc|apply Kd.R_drewN|apply Kd.R_drew));exact Kd.R_mono HO_4.out (fun _ hk => hk.2)), (by (with_reducible repeat (first|refine blk_drewN ?_ _|refine blk_drew ?_|refine blk_alloc ?_ _));exact BK109.out), GW109.out, GE109.out, (by repeat (first|(with_reducible first|exact HB.out|apply below_alloc|apply pw_below_drewN|apply below_drew1|refine below_set ?_ GE109.out)|exact HB.out))⟩)
                   ·skip
                    refine box_step ?hg (N := 8) ?hd (cs := #[.int .i64 0, .int .i64 0, .int .i64 0, .int .i64 0]) (t := 29) ?hr ?_;(case hd => rfl);(case hg => rfl);(case hr => first|(go_simp;done)|(go_simp;rfl))
                    intro gb109 hg w41 hbox hb
                    have n0_ := Aside0.mk (Kd.R_below (Kd.R_elderB (by (with_reducible repeat (first|apply Kd.R_alloc|apply Kd.R_drewN|apply Kd.R_drew));exact HO_4.out) gb109 (Nat.le_of_eq hg.symm)) hb)
                    have n1_ := Aside0.mk (below_step (by repeat (first|(with_reducible first|exact HB.out|apply below_alloc|apply pw_below_drewN|apply below_drew1)|exact HB.out)) hb)
                    have n2_ := Aside0.mk (hbox)
                    have n3_ := Aside0.mk ((by rw [hg];exact (below_size (by repeat (first|(with_reducible first|exact HB.out|apply below_alloc|apply pw_below_drewN|apply below_drew1)|exact HB.out))) : w.heap.size ≤ gb109))
                    have n4_ := Aside0.mk ((by rw [hg];exact (below_size (by repeat (first|(with_reducible first|exact HB.out|apply below_alloc|apply pw_below_drewN|apply below_drew1)|exact HB.out))) : w.heap.size ≤ gb109))
                    clear HO_4
                    clear HB
                    have HO_4 := n0_
                    have HB := n1_
                    have BK109 := n2_
                    have GW109 := n3_
                    have GE109 := n4_
                    clear n0_ n1_ n2_ n3_ n4_
                    clear hb hbox hg
                    refine hK.out _ _ (((HB.out.cell (World.block_lt_of_cell? w _ hw102_0)).trans hw102_0)) (fun hHeld => ?_)
                    clear hK K
                    refine norm_ (a' := ?_) ?_ ?_
                    rotate_left
                    ·show Act.put _ (some 8) _ = _
                     simp only [Act.put, List.setIfInBounds_toArray, List.set_cons_zero, List.set_cons_succ, i64_w, i32_w]
                     rfl
                    refine one_ (i := 14) (N := some 40) #[true, true, true, true, true, true, true, true, true, true, true, true, true, true, true, false, false, true, false] rfl rfl (one_of HT_.out (by kernel_rfl)) (by decide) (fun K hK => ?_)
                    refine goes_ Tryd.func25 (by kernel_rfl) rfl #[.slice A40 M17.length ((c0 - x6_1.toNat) - 17)] (by rfl) rfl rfl (by (try simp only [List.map_toArray, List.map_cons, List.map_nil]);first|done|(rw [show M17.length = (M0.length - 17) from List.length_drop] <;> rfl)|rfl|(simp only [List.length_drop, List.length_take];rfl)) ?_
                    with_reducible refine (tombolaref46_number.calls kj1 _ _ M17 t108 _ ?side1 ?side2 A15.out).mono ?_
                    (case side1 => repeat (first|exact (Kd.C_below HR107.out HB.out)|(with_reducible refine Kd.C_alloc ?_ _)|(with_reducible refine Kd.C_drewN ?_ _)|(with_reducible refine Kd.C_drew ?_)))
                    (case side2 => exact HC107.out)
                    rintro e w' ⟨rfl, ⟨nd, rfl⟩⟩
                    refine ⟨_, rfl, ?_⟩
                    refine hK.out _ _ (((HB.out.cell (World.block_lt_of_cell? w _ hw102_0)).trans hw102_0)) (fun hHeld => ?_)
                    clear hK K
                    refine norm_ (a' := ?_) ?_ ?_
                    rotate_left
                    ·show Act.put _ (some 40) _ = _
                     simp only [Act.put, List.setIfInBounds_toArray, List.set_cons_zero, List.set_cons_succ, i64_w, i32_w]
                     rfl
                    refine pure_ (i := 15) (N := some 41) (v := ?_) (a' := ?_) #[true, true, true, true, true, true, true, true, true, true, true, true, true, true, true, true, false, true, false] rfl rfl (any_of HT_.out (by kernel_rfl)) (fun _ _ _ h => h) (Or.inl ⟨by rfl, ?_⟩) ?_ ?_
                    rotate_left
                    ·intro w'
                     go_simp
                     with_reducible rfl
                    rotate_left
                    ·simp only [Act.put, List.setIfInBounds_toArray, List.set_cons_zero, List.set_cons_succ, i64_w, i32_w]
                     rfl
                    refine pure_ (i := 16) (N := some 42) (v := ?_) (a' := ?_) #[true, true, true, true, true, true, true, true, true, true, true, true, true, true, true, true, true, true, false] rfl rfl (any_of HT_.out (by kernel_rfl)) (fun _ _ _ h => h) (Or.inl ⟨by rfl, ?_⟩) ?_ ?_
                    rotate_left
                    ·intro w'
                     go_simp
                     with_reducible rfl
                    rotate_left
                    ·simp only [Act.put, List.setIfInBounds_toArray, List.set_cons_zero, List.set_cons_succ, i64_w, i32_w]
                     rfl
                    exact norm_ (by simp only [putAll, Act.put, List.setIfInBounds_toArray, List.set_cons_zero, List.set_cons_succ]) (hCont (gb109) _ ⟨hHeld, (by (with_reducible repeat (first|apply Kd.R_alloc|apply Kd.R_drewN|apply Kd.R_drew));exact Kd.R_mono HO_4.out (fun _ hk => hk.2)), (by (with_reducible repeat (first|refine blk_drewN ?_ _|refine blk_drew ?_|refine blk_alloc ?_ _));exact BK109.out), GW109.out, GE109.out, (by repeat (first|(with_reducible first|exact HB.out|apply below_alloc|apply pw_below_drewN|apply below_drew1|refine below_set ?_ GE109.out)|exact HB.out))⟩)
                  ·skip
                   refine box_step ?hg (N := 8) ?hd (cs := #[.int .i64 0, .int .i64 0, .int .i64 0, .int .i64 0]) (t := 29) ?hr ?_;(case hd => rfl);(case hg => rfl);(case hr => first|(go_simp;done)|(go_simp;rfl))
                   intro gb109 hg w41 hbox hb
                   have n0_ := Aside0.mk (Kd.R_below (Kd.R_elderB (by (with_reducible repeat (first|apply Kd.R_alloc|apply Kd.R_drewN|apply Kd.R_drew));exact HO_4.out) gb109 (Nat.le_of_eq hg.symm)) hb)
                   have n1_ := Aside0.mk (below_step (by repeat (first|(with_reducible first|exact HB.out|apply below_alloc|apply pw_below_drewN|apply below_drew1)|exact HB.out)) hb)
                   have n2_ := Aside0.mk (hbox)
                   have n3_ := Aside0.mk ((by rw [hg];exact (below_size (by repeat (first|(with_reducible first|exact HB.out|apply below_alloc|apply pw_below_drewN|apply below_drew1)|exact HB.out))) : w.heap.size ≤ gb109))
                   have n4_ := Aside0.mk ((by rw [hg];exact (below_size (by repeat (first|(with_reducible first|exact HB.out|apply below_alloc|apply pw_below_drewN|apply below_drew1)|exact HB.out))) : w.heap.size ≤ gb109))
                   clear HO_4
                   clear HB
                   have HO_4 := n0_
                   have HB := n1_
                   have BK109 := n2_
                   have GW109 := n3_
                   have GE109 := n4_
                   clear n0_ n1_ n2_ n3_ n4_
                   clear hb hbox hg
                   refine hK.out _ _ (((HB.out.cell (World.block_lt_of_cell? w _ hw102_0)).trans hw102_0)) (fun hHeld => ?_)
                   clear hK K
                   refine norm_ (a' := ?_) ?_ ?_
                   rotate_left
                   ·show Act.put _ (some 8) _ = _
                    simp only [Act.put, List.setIfInBounds_toArray, List.set_cons_zero, List.set_cons_succ, i64_w, i32_w]
                    rfl
                   refine one_ (i := 10) (N := some 36) #[true, true, true, true, true, true, true, true, true, true, true, false, true, true, false, false, false, true, false] rfl rfl (one_of HT_.out (by kernel_rfl)) (by decide) (fun K hK => ?_)
                   refine goes_ Tryd.func25 (by kernel_rfl) rfl #[.slice A39 M9.length ((c0 - x6_1.toNat) - 9)] (by rfl) rfl rfl (by (try simp only [List.map_toArray, List.map_cons, List.map_nil]);first|done|(rw [show M9.length = (M0.length - 9) from List.length_drop] <;> rfl)|rfl|(simp only [List.length_drop, List.length_take];rfl)) ?_
                   with_reducible refine (tombolaref46_number.calls kj1 _ _ M9 t106 _ ?side1 ?side2 A13.out).mono ?_
                   (case side1 => repeat (first|exact (Kd.C_below HR105.out HB.out)|(with_reducible refine Kd.C_alloc ?_ _)|(with_reducible refine Kd.C_drewN ?_ _)|(with_reducible refine Kd.C_drew ?_)))
                   (case side2 => exact HC105.out)
                   rintro e w' ⟨rfl, ⟨nd, rfl⟩⟩
                   refine ⟨_, rfl, ?_⟩
                   refine hK.out _ _ (((HB.out.cell (World.block_lt_of_cell? w _ hw102_0)).trans hw102_0)) (fun hHeld => ?_)
                   clear hK K
                   refine norm_ (a' := ?_) ?_ ?_
                   rotate_left
                   ·show Act.put _ (some 36) _ = _
                    simp only [Act.put, List.setIfInBounds_toArray, List.set_cons_zero, List.set_cons_succ, i64_w, i32_w]
                    rfl
                   refine pure_ (i := 11) (N := some 37) (v := ?_) (a' := ?_) #[true, true, true, true, true, true, true, true, true, true, true, true, true, true, false, false, false, true, false] rfl rfl (any_of HT_.out (by kernel_rfl)) (fun _ _ _ h => h) (Or.inl ⟨by rfl, ?_⟩) ?_ ?_
                   rotate_left
                   ·intro w'
                    go_simp
                    with_reducible rfl
                   rotate_left
                   ·simp only [Act.put, List.setIfInBounds_toArray, List.set_cons_zero, List.set_cons_succ, i64_w, i32_w]
                    rfl
                   refine one_ (i := 14) (N := some 40) #[true, true, true, true, true, true, true, true, true, true, true, true, true, true, true, false, false, true, false] rfl rfl (one_of HT_.out (by kernel_rfl)) (by decide) (fun K hK => ?_)
                   refine goes_ Tryd.func25 (by kernel_rfl) rfl #[.slice A40 M17.length ((c0 - x6_1.toNat) - 17)] (by rfl) rfl rfl (by (try simp only [List.map_toArray, List.map_cons, List.map_nil]);first|done|(rw [show M17.length = (M0.length - 17) from List.length_drop] <;> rfl)|rfl|(simp only [List.length_drop, List.length_take];rfl)) ?_
                   with_reducible refine (tombolaref46_number.calls kj1 _ _ M17 t108 _ ?side1 ?side2 A15.out).mono ?_
                   (case side1 => repeat (first|exact (Kd.C_below HR107.out (by repeat (first|(with_reducible first|exact HB.out|apply below_alloc|apply pw_below_drewN|apply below_drew1|refine below_set ?_ GE109.out)|exact HB.out)))|(with_reducible refine Kd.C_alloc ?_ _)|(with_reducible refine Kd.C_drewN ?_ _)|(with_reducible refine Kd.C_drew ?_)))
                   (case side2 => exact HC107.out)
                   rintro e w' ⟨rfl, ⟨nd, rfl⟩⟩
                   refine ⟨_, rfl, ?_⟩
                   refine hK.out _ _ (((HB.out.cell (World.block_lt_of_cell? w _ hw102_0)).trans hw102_0)) (fun hHeld => ?_)
                   clear hK K
                   refine norm_ (a' := ?_) ?_ ?_
                   rotate_left
                   ·show Act.put _ (some 40) _ = _
                    simp only [Act.put, List.setIfInBounds_toArray, List.set_cons_zero, List.set_cons_succ, i64_w, i32_w]
                    rfl
                   refine pure_ (i := 15) (N := some 41) (v := ?_) (a' := ?_) #[true, true, true, true, true, true, true, true, true, true, true, true, true, true, true, true, false, true, false] rfl rfl (any_of HT_.out (by kernel_rfl)) (fun _ _ _ h => h) (Or.inl ⟨by rfl, ?_⟩) ?_ ?_
                   rotate_left
                   ·intro w'
                    go_simp
                    with_reducible rfl
                   rotate_left
                   ·simp only [Act.put, List.setIfInBounds_toArray, List.set_cons_zero, List.set_cons_succ, i64_w, i32_w]
                    rfl
                   refine pure_ (i := 16) (N := some 42) (v := ?_) (a' := ?_) #[true, true, true, true, true, true, true, true, true, true, true, true, true, true, true, true, true, true, false] rfl rfl (any_of HT_.out (by kernel_rfl)) (fun _ _ _ h => h) (Or.inl ⟨by rfl, ?_⟩) ?_ ?_
                   rotate_left
                   ·intro w'
                    go_simp
                    with_reducible rfl
                   rotate_left
                   ·simp only [Act.put, List.setIfInBounds_toArray, List.set_cons_zero, List.set_cons_succ, i64_w, i32_w]
                    rfl
                   exact norm_ (by simp only [putAll, Act.put, List.setIfInBounds_toArray, List.set_cons_zero, List.set_cons_succ]) (hCont (gb109) _ ⟨hHeld, (by (with_reducible repeat (first|apply Kd.R_alloc|apply Kd.R_drewN|apply Kd.R_drew));exact Kd.R_mono HO_4.out (fun _ hk => hk.2)), (by (with_reducible repeat (first|refine blk_drewN ?_ _|refine blk_drew ?_|refine blk_alloc ?_ _));exact BK109.out), GW109.out, GE109.out, (by repeat (first|(with_reducible first|exact HB.out|apply below_alloc|apply pw_below_drewN|apply below_drew1|refine below_set ?_ GE109.out)|exact HB.out))⟩)
                 ·skip
                  refine box_step ?hg (N := 8) ?hd (cs := #[.int .i64 0, .int .i64 0, .int .i64 0, .int .i64 0]) (t := 29) ?hr ?_;(case hd => rfl);(case hg => rfl);(case hr => first|(go_simp;done)|(go_simp;rfl))
                  intro gb109 hg w41 hbox hb
                  have n0_ := Aside0.mk (Kd.R_below (Kd.R_elderB (by (with_reducible repeat (first|apply Kd.R_alloc|apply Kd.R_drewN|apply Kd.R_drew));exact HO_4.out) gb109 (Nat.le_of_eq hg.symm)) hb)
                  have n1_ := Aside0.mk (below_step (by repeat (first|(with_reducible first|exact HB.out|apply below_alloc|apply pw_below_drewN|apply below_drew1)|exact HB.out)) hb)
                  have n2_ := Aside0.mk (hbox)
                  have n3_ := Aside0.mk ((by rw [hg];exact (below_size (by repeat (first|(with_reducible first|exact HB.out|apply below_alloc|apply pw_below_drewN|apply below_drew1)|exact HB.out))) : w.heap.size ≤ gb109))
                  have n4_ := Aside0.mk ((by rw [hg];exact (below_size (by repeat (first|(with_reducible first|exact HB.out|apply below_alloc|apply pw_below_drewN|apply below_drew1)|exact HB.out))) : w.heap.size ≤ gb109))
                  clear HO_4
                  clear HB
                  have HO_4 := n0_
                  have HB := n1_
                  have BK109 := n2_
                  have GW109 := n3_
                  have GE109 := n4_
                  clear n0_ n1_ n2_ n3_ n4_
                  clear hb hbox hg
                  refine hK.out _ _ (((HB.out.cell (World.block_lt_of_cell? w _ hw102_0)).trans hw102_0)) (fun hHeld => ?_)
                  clear hK K
                  refine norm_ (a' := ?_) ?_ ?_
                  rotate_left
                  ·show Act.put _ (some 8) _ = _
                   simp only [Act.put, List.setIfInBounds_toArray, List.set_cons_zero, List.set_cons_succ, i64_w, i32_w]
                   rfl
                  refine one_ (i := 6) (N := some 32) #[true, true, true, true, true, true, true, false, true, true, false, false, true, true, false, false, false, true, false] rfl rfl (one_of HT_.out (by kernel_rfl)) (by decide) (fun K hK => ?_)
                  refine goes_ Tryd.func25 (by kernel_rfl) rfl #[.slice A38 M1.length ((c0 - x6_1.toNat) - 1)] (by rfl) rfl rfl (by (try simp only [List.map_toArray, List.map_cons, List.map_nil]);first|done|(rw [show M1.length = (M0.length - 1) from List.length_drop] <;> rfl)|rfl|(simp only [List.length_drop, List.length_take];rfl)) ?_
                  with_reducible refine (tombolaref46_number.calls kj1 _ _ M1 t104 _ ?side1 ?side2 A11.out).mono ?_
                  (case side1 => repeat (first|exact (Kd.C_below HR103.out HB.out)|(with_reducible refine Kd.C_alloc ?_ _)|(with_reducible refine Kd.C_drewN ?_ _)|(with_reducible refine Kd.C_drew ?_)))
                  (case side2 => exact HC103.out)
                  rintro e w' ⟨rfl, ⟨nd, rfl⟩⟩
                  refine ⟨_, rfl, ?_⟩
                  refine hK.out _ _ (((HB.out.cell (World.block_lt_of_cell? w _ hw102_0)).trans hw102_0)) (fun hHeld => ?_)
                  clear hK K
                  refine norm_ (a' := ?_) ?_ ?_
                  rotate_left
                  ·show Act.put _ (some 32) _ = _
                   simp only [Act.put, List.setIfInBounds_toArray, List.set_cons_zero, List.set_cons_succ, i64_w, i32_w]
                   rfl
                  refine pure_ (i := 7) (N := some 33) (v := ?_) (a' := ?_) #[true, true, true, true, true, true, true, true, true, true, false, false, true, true, false, false, false, true, false] rfl rfl (any_of HT_.out (by kernel_rfl)) (fun _ _ _ h => h) (Or.inl ⟨by rfl, ?_⟩) ?_ ?_
                  rotate_left
                  ·intro w'
                   go_simp
                   with_reducible rfl
                  rotate_left
                  ·simp only [Act.put, List.setIfInBounds_toArray, List.set_cons_zero, List.set_cons_succ, i64_w, i32_w]
                   rfl
                  refine one_ (i := 10) (N := some 36) #[true, true, true, true, true, true, true, true, true, true, true, false, true, true, false, false, false, true, false] rfl rfl (one_of HT_.out (by kernel_rfl)) (by decide) (fun K hK => ?_)
                  refine goes_ Tryd.func25 (by kernel_rfl) rfl #[.slice A39 M9.length ((c0 - x6_1.toNat) - 9)] (by rfl) rfl rfl (by (try simp only [List.map_toArray, List.map_cons, List.map_nil]);first|done|(rw [show M9.length = (M0.length - 9) from List.length_drop] <;> rfl)|rfl|(simp only [List.length_drop, List.length_take];rfl)) ?_
                  with_reducible refine (tombolaref46_number.calls kj1 _ _ M9 t106 _ ?side1 ?side2 A13.out).mono ?_
                  (case side1 => repeat (first|exact (Kd.C_below HR105.out (by repeat (first|(with_reducible first|exact HB.out|apply below_alloc|apply pw_below_drewN|apply below_drew1|refine below_set ?_ GE109.out)|exact HB.out)))|(with_reducible refine Kd.C_alloc ?_ _)|(with_reducible refine Kd.C_drewN ?_ _)|(with_reducible refine Kd.C_drew ?_)))
                  (case side2 => exact HC105.out)
                  rintro e w' ⟨rfl, ⟨nd, rfl⟩⟩
                  refine ⟨_, rfl, ?_⟩
                  refine hK.out _ _ (((HB.out.cell (World.block_lt_of_cell? w _ hw102_0)).trans hw102_0)) (fun hHeld => ?_)
                  clear hK K
                  refine norm_ (a' := ?_) ?_ ?_
                  rotate_left
                  ·show Act.put _ (some 36) _ = _
                   simp only [Act.put, List.setIfInBounds_toArray, List.set_cons_zero, List.set_cons_succ, i64_w, i32_w]
                   rfl
                  refine pure_ (i := 11) (N := some 37) (v := ?_) (a' := ?_) #[true, true, true, true, true, true, true, true, true, true, true, true, true, true, false, false, false, true, false] rfl rfl (any_of HT_.out (by kernel_rfl)) (fun _ _ _ h => h) (Or.inl ⟨by rfl, ?_⟩) ?_ ?_
                  rotate_left
                  ·intro w'
                   go_simp
                   with_reducible rfl
                  rotate_left
                  ·simp only [Act.put, List.setIfInBounds_toArray, List.set_cons_zero, List.set_cons_succ, i64_w, i32_w]
                   rfl
                  refine one_ (i := 14) (N := some 40) #[true, true, true, true, true, true, true, true, true, true, true, true, true, true, true, false, false, true, false] rfl rfl (one_of HT_.out (by kernel_rfl)) (by decide) (fun K hK => ?_)
                  refine goes_ Tryd.func25 (by kernel_rfl) rfl #[.slice A40 M17.length ((c0 - x6_1.toNat) - 17)] (by rfl) rfl rfl (by (try simp only [List.map_toArray, List.map_cons, List.map_nil]);first|done|(rw [show M17.length = (M0.length - 17) from List.length_drop] <;> rfl)|rfl|(simp only [List.length_drop, List.length_take];rfl)) ?_
                  with_reducible refine (tombolaref46_number.calls kj1 _ _ M17 t108 _ ?side1 ?side2 A15.out).mono ?_
                  (case side1 => repeat (first|exact (Kd.C_below HR107.out (by repeat (first|(with_reducible first|exact HB.out|apply below_alloc|apply pw_below_drewN|apply below_drew1|refine below_set ?_ GE109.out)|exact HB.out)))|(with_reducible refine Kd.C_alloc ?_ _)|(with_reducible refine Kd.C_drewN ?_ _)|(with_reducible refine Kd.C_drew ?_)))
                  (case side2 => exact HC107.out)
                  rintro e w' ⟨rfl, ⟨nd, rfl⟩⟩
                  refine ⟨_, rfl, ?_⟩
                  refine hK.out _ _ (((HB.out.cell (World.block_lt_of_cell? w _ hw102_0)).trans hw102_0)) (fun hHeld => ?_)
                  clear hK K
                  refine norm_ (a' := ?_) ?_ ?_
                  rotate_left
                  ·show Act.put _ (some 40) _ = _
                   simp only [Act.put, List.setIfInBounds_toArray, List.set_cons_zero, List.set_cons_succ, i64_w, i32_w]
                   rfl
                  refine pure_ (i := 15) (N := some 41) (v := ?_) (a' := ?_) #[true, true, true, true, true, true, true, true, true, true, true, true, true, true, true, true, false, true, false] rfl rfl (any_of HT_.out (by kernel_rfl)) (fun _ _ _ h => h) (Or.inl ⟨by rfl, ?_⟩) ?_ ?_
                  rotate_left
                  ·intro w'
                   go_simp
                   with_reducible rfl
                  rotate_left
                  ·simp only [Act.put, List.setIfInBounds_toArray, List.set_cons_zero, List.set_cons_succ, i64_w, i32_w]
                   rfl
                  refine pure_ (i := 16) (N := some 42) (v := ?_) (a' := ?_) #[true, true, true, true, true, true, true, true, true, true, true, true, true, true, true, true, true, true, false] rfl rfl (any_of HT_.out (by kernel_rfl)) (fun _ _ _ h => h) (Or.inl ⟨by rfl, ?_⟩) ?_ ?_
                  rotate_left
                  ·intro w'
                   go_simp
                   with_reducible rfl
                  rotate_left
                  ·simp only [Act.put, List.setIfInBounds_toArray, List.set_cons_zero, List.set_cons_succ, i64_w, i32_w]
                   rfl
                  exact norm_ (by simp only [putAll, Act.put, List.setIfInBounds_toArray, List.set_cons_zero, List.set_cons_succ]) (hCont (gb109) _ ⟨hHeld, (by (with_reducible repeat (first|apply Kd.R_alloc|apply Kd.R_drewN|apply Kd.R_drew));exact Kd.R_mono HO_4.out (fun _ hk => hk.2)), (by (with_reducible repeat (first|refine blk_drewN ?_ _|refine blk_drew ?_|refine blk_alloc ?_ _));exact BK109.out), GW109.out, GE109.out, (by repeat (first|(with_reducible first|exact HB.out|apply below_alloc|apply pw_below_drewN|apply below_drew1|refine below_set ?_ GE109.out)|exact HB.out))⟩)
                rintro gb109 w42 ⟨hS_, h0_, h1_, h2_, h3_, h4_⟩
                have n0_ : Aside0 (Kd.R k29 29 w42 w.heap.size (fun k_ => k_ ≠ gb109) u4 x4_1) := ⟨h0_⟩
                have n1_ : Aside0 (w42.heap[gb109]? = some (.cells #[.int .i64 0, .int .i64 0, .int .i64 0, .int .i64 0] 29 (0, 0))) := ⟨h1_⟩
                have n2_ : Aside0 (w.heap.size ≤ gb109) := ⟨h2_⟩
                have n3_ : Aside0 (w.heap.size ≤ gb109) := ⟨h3_⟩
                have n4_ : Aside0 (Below w.heap.size w w42) := ⟨h4_⟩
                clear HO_4
                clear HB
                clear h0_ h1_ h2_ h3_ h4_
                have HO_4 := n0_
                have BK109 := n1_
                have GW109 := n2_
                have GE109 := n3_
                have HB := n4_
                clear n0_ n1_ n2_ n3_ n4_
                have hHeld : w42.cell? ad102 = some (.int .u8 (rd M0 0)) := hS_
                refine norm_ (a' := ?_) ?_ ?_
                rotate_left
                ·simp only [putAll, Act.put, List.setIfInBounds_toArray, List.set_cons_zero, List.set_cons_succ]
                 rfl
                refine one_ (i := 18) (N := none) #[true, true, true, true, true, true, true, true, true, true, true, true, true, true, true, true, true, true, true] rfl rfl (one_of HT_.out (by kernel_rfl)) (by decide) (fun K hK => ?_)
                have hs43 : w42.cell? ⟨gb109, 0, none⟩ = some (.int .i64 0) := (blk_cell BK109.out 0).trans rfl
                have hfs43 := blk_frozen BK109.out 0
                have hs44 : w42.cell? ⟨gb109, 1, none⟩ = some (.int .i64 0) := (blk_cell BK109.out 1).trans rfl
                have hfs44 := blk_frozen BK109.out 1
                have hs45 : w42.cell? ⟨gb109, 2, none⟩ = some (.int .i64 0) := (blk_cell BK109.out 2).trans rfl
                have hfs45 := blk_frozen BK109.out 2
                have hs46 : w42.cell? ⟨gb109, 3, none⟩ = some (.int .i64 0) := (blk_cell BK109.out 3).trans rfl
                have hfs46 := blk_frozen BK109.out 3
                refine skip_ (w1 := ?_) (by rfl) rfl ?_ ?_
                rotate_left
                ·go_simp
                 rfl
                refine hK.out _ _ (((cell_far (p := ⟨gb109, _, none⟩) (by first|exact Nat.ne_of_lt (Nat.lt_of_lt_of_le (by have := World.block_lt_of_cell? _ _ hw102_0;first|rwa [add_block] at this|exact this) GW109.out)|(rw [add_block];exact Nat.ne_of_lt (Nat.lt_of_lt_of_le (by have := World.block_lt_of_cell? _ _ hw102_0;first|rwa [add_block] at this|exact this) GW109.out))|(show (Addr.add _ _).block ≠ _;rw [add_block];exact Nat.ne_of_lt (Nat.lt_of_lt_of_le (by have := World.block_lt_of_cell? _ _ hw102_0;first|rwa [add_block] at this|exact this) GW109.out))|(dsimp only;exact Nat.ne_of_lt (Nat.lt_of_lt_of_le (by have := World.block_lt_of_cell? _ _ hw102_0;first|rwa [add_block] at this|exact this) GW109.out))) _).trans (((cell_far (p := ⟨gb109, _, none⟩) (by first|exact Nat.ne_of_lt (Nat.lt_of_lt_of_le (by have := World.block_lt_of_cell? _ _ hw102_0;first|rwa [add_block] at this|exact this) GW109.out)|(rw [add_block];exact Nat.ne_of_lt (Nat.lt_of_lt_of_le (by have := World.block_lt_of_cell? _ _ hw102_0;first|rwa [add_block] at this|exact this) GW109.out))|(show (Addr.add _ _).block ≠ _;rw [add_block];exact Nat.ne_of_lt (Nat.lt_of_lt_of_le (by have := World.block_lt_of_cell? _ _ hw102_0;first|rwa [add_block] at this|exact this) GW109.out))|(dsimp only;exact Nat.ne_of_lt (Nat.lt_of_lt_of_le (by have := World.block_lt_of_cell? _ _ hw102_0;first|rwa [add_block] at this|exact this) GW109.out))) _).trans (((cell_far (p := ⟨gb109, _, none⟩) (by first|exact Nat.ne_of_lt (Nat.lt_of_lt_of_le (by have := World.block_lt_of_cell? _ _ hw102_0;first|rwa [add_block] at this|exact this) GW109.out)|(rw [add_block];exact Nat.ne_of_lt (Nat.lt_of_lt_of_le (by have := World.block_lt_of_cell? _ _ hw102_0;first|rwa [add_block] at this|exact this) GW109.out))|(show (Addr.add _ _).block ≠ _;rw [add_block];exact Nat.ne_of_lt (Nat.lt_of_lt_of_le (by have := World.block_lt_of_cell? _ _ hw102_0;first|rwa [add_block] at this|exact this) GW109.out))|(dsimp only;exact Nat.ne_of_lt (Nat.lt_of_lt_of_le (by have := World.block_lt_of_cell? _ _ hw102_0;first|rwa [add_block] at this|exact this) GW109.out))) _).trans (((cell_far (p := ⟨gb109, _, none⟩) (by first|exact Nat.ne_of_lt (Nat.lt_of_lt_of_le (by have := World.block_lt_of_cell? _ _ hw102_0;first|rwa [add_block] at this|exact this) GW109.out)|(rw [add_block];exact Nat.ne_of_lt (Nat.lt_of_lt_of_le (by have := World.block_lt_of_cell? _ _ hw102_0;first|rwa [add_block] at this|exact this) GW109.out))|(show (Addr.add _ _).block ≠ _;rw [add_block];exact Nat.ne_of_lt (Nat.lt_of_lt_of_le (by have := World.block_lt_of_cell? _ _ hw102_0;first|rwa [add_block] at this|exact this) GW109.out))|(dsimp only;exact Nat.ne_of_lt (Nat.lt_of_lt_of_le (by have := World.block_lt_of_cell? _ _ hw102_0;first|rwa [add_block] at this|exact this) GW109.out))) _).trans (hHeld))))))))) (fun hHeld => ?_)
                clear hK K
                refine done_ (done_of HT_.out (by kernel_rfl)) ?_
                have hcz47_0 : w42.cell? ⟨gb109, 0, none⟩ = some (.int .i64 0) := (blk_cell BK109.out 0).trans rfl
                have hcz47_1 : w42.cell? ⟨gb109, 1, none⟩ = some (.int .i64 0) := (blk_cell BK109.out 1).trans rfl
                have hcz47_2 : w42.cell? ⟨gb109, 2, none⟩ = some (.int .i64 0) := (blk_cell BK109.out 2).trans rfl
                have hcz47_3 : w42.cell? ⟨gb109, 3, none⟩ = some (.int .i64 0) := (blk_cell BK109.out 3).trans rfl
                have hfz47_0 := blk_frozen BK109.out 0
                have hfz47_1 := blk_frozen BK109.out 1
                have hfz47_2 := blk_frozen BK109.out 2
                have hfz47_3 := blk_frozen BK109.out 3
                try go_wp2_with (first|((with_reducible refine gate_callee (f := 13) rfl ?_);refine goesL_ (some 46) rfl rfl Tryd.func13 (by kernel_rfl) rfl #[.int .u64 x5_1, .agg #[.int .i64 (wrap64 (rd M0 0)), .int .i64 (wrap64 (t104)), .int .i64 (wrap64 (t106)), .int .i64 (wrap64 (t108))]] rfl (by (try simp only [List.map_toArray, List.map_cons, List.map_nil]);first|done|rfl|(simp only [List.length_drop, List.length_take];rfl)) ?_;(with_reducible refine (tombolaref46_Frame.calls kj1 x5_1 (wrap64 (rd M0 0)) (wrap64 (t104)) (wrap64 (t106)) (wrap64 (t108)) t110 t113 _ A16.out).mono ?_);rintro e w48 ⟨v111, rfl, ho0, hb⟩;refine ⟨_, rfl, ?_⟩;have n0_ := Aside0.mk (Kd.R_below (by (with_reducible repeat (first|apply Kd.R_alloc|apply Kd.R_drewN|apply Kd.R_drew));exact (Kd.R_mono (Kd.R_far (p := ⟨gb109, 3, none⟩) (Kd.R_far (p := ⟨gb109, 2, none⟩) (Kd.R_far (p := ⟨gb109, 1, none⟩) (Kd.R_far (p := ⟨gb109, 0, none⟩) (Kd.R_mono HO_4.out (fun k_ hk => (⟨hk, hk⟩ : _ ∧ k_ ≠ gb109))) (fun _ hk => hk.2) (.int .i64 (wrap64 (rd M0 0)))) (fun _ hk => hk.2) (.int .i64 (wrap64 (t104)))) (fun _ hk => hk.2) (.int .i64 (wrap64 (t106)))) (fun _ hk => hk.2) (.int .i64 (wrap64 (t108)))) (fun _ h_ => h_.1))) hb);have n1_ := Aside0.mk (Kd.R_lower ho0 (below_size (by repeat (first|(with_reducible first|exact HB.out|apply below_alloc|apply pw_below_drewN|apply below_drew1|refine below_set ?_ GE109.out)|exact HB.out))));have n2_ := Aside0.mk (blk_below (g := gb109) (o := .cells #[.int .i64 (wrap64 (rd M0 0)), .int .i64 (wrap64 (t104)), .int .i64 (wrap64 (t106)), .int .i64 (wrap64 (t108))] 29 (0, 0)) (by (with_reducible repeat (first|refine blk_drewN ?_ _|refine blk_drew ?_|refine blk_alloc ?_ _));refine blk_put (cs := #[.int .i64 (wrap64 (rd M0 0)), .int .i64 (wrap64 (t104)), .int .i64 (wrap64 (t106)), .int .i64 0]) ?_ 3 _ rfl;(with_reducible repeat (first|refine blk_drewN ?_ _|refine blk_drew ?_|refine blk_alloc ?_ _));refine blk_put (cs := #[.int .i64 (wrap64 (rd M0 0)), .int .i64 (wrap64 (t104)), .int .i64 0, .int .i64 0]) ?_ 2 _ rfl;(with_reducible repeat (first|refine blk_drewN ?_ _|refine blk_drew ?_|refine blk_alloc ?_ _));refine blk_put (cs := #[.int .i64 (wrap64 (rd M0 0)), .int .i64 0, .int .i64 0, .int .i64 0]) ?_ 1 _ rfl;(with_reducible repeat (first|refine blk_drewN ?_ _|refine blk_drew ?_|refine blk_alloc ?_ _));refine blk_put (cs := #[.int .i64 0, .int .i64 0, .int .i64 0, .int .i64 0]) ?_ 0 _ rfl;(with_reducible repeat (first|refine blk_drewN ?_ _|refine blk_drew ?_|refine blk_alloc ?_ _));exact BK109.out) hb);have n3_ := Aside0.mk (below_step (by repeat (first|(with_reducible first|exact HB.out|apply below_alloc|apply pw_below_drewN|apply below_drew1|refine below_set ?_ GE109.out)|exact HB.out)) hb);clear HO_4;clear BK109;clear HB;have HO_4 := n0_;have HO112 := n1_;have BK109 := n2_;have HB := n3_;clear n0_ n1_ n2_ n3_;(try clear hb);(try clear hb2);(try clear hk);(try clear hi);(try clear ho0);have hcz49_0 : w48.cell? ⟨gb109, 0, none⟩ = some (.int .i64 (wrap64 (rd M0 0))) := (blk_cell BK109.out 0).trans rfl;have hcz49_1 : w48.cell? ⟨gb109, 1, none⟩ = some (.int .i64 (wrap64 (t104))) := (blk_cell BK109.out 1).trans rfl;have hcz49_2 : w48.cell? ⟨gb109, 2, none⟩ = some (.int .i64 (wrap64 (t106))) := (blk_cell BK109.out 2).trans rfl;have hcz49_3 : w48.cell? ⟨gb109, 3, none⟩ = some (.int .i64 (wrap64 (t108))) := (blk_cell BK109.out 3).trans rfl;have hfz49_0 := blk_frozen BK109.out 0;have hfz49_1 := blk_frozen BK109.out 1;have hfz49_2 := blk_frozen BK109.out 2;have hfz49_3 := blk_frozen BK109.out 3)|((with_reducible refine gate_callee (f := 15) rfl ?_);refine goesL_ (some 51) rfl rfl Tryd.func15 (by kernel_rfl) rfl #[.int .i64 (wrap64 (rd M0 0))] rfl (by (try simp only [List.map_toArray, List.map_cons, List.map_nil]);first|done|rfl|(simp only [List.length_drop, List.length_take];rfl)) ?_;(with_reducible refine (tombolaref31_Name.calls (wrap64 (rd M0 0)) t114 _ A17.out).mono ?_);rintro e w50 ⟨rfl, hb⟩;refine ⟨_, rfl, ?_⟩;have n0_ := Aside0.mk (Kd.R_below (by (with_reducible repeat (first|apply Kd.R_alloc|apply Kd.R_drewN|apply Kd.R_drew));exact HO_4.out) hb);have n1_ := Aside0.mk (Kd.R_below (by (with_reducible repeat (first|apply Kd.R_alloc|apply Kd.R_drewN|apply Kd.R_drew));exact HO112.out) hb);have n2_ := Aside0.mk (blk_below (g := gb109) (o := .cells #[.int .i64 (wrap64 (rd M0 0)), .int .i64 (wrap64 (t104)), .int .i64 (wrap64 (t106)), .int .i64 (wrap64 (t108))] 29 (0, 0)) (by (with_reducible repeat (first|refine blk_drewN ?_ _|refine blk_drew ?_|refine blk_alloc ?_ _));exact BK109.out) hb);have n3_ := Aside0.mk (below_step (by repeat (first|(with_reducible first|exact HB.out|apply below_alloc|apply pw_below_drewN|apply below_drew1|refine below_set ?_ GE109.out)|exact HB.out)) hb);clear HO_4;clear HO112;clear BK109;clear HB;have HO_4 := n0_;have HO112 := n1_;have BK109 := n2_;have HB := n3_;clear n0_ n1_ n2_ n3_;(try clear hb);(try clear hb2);(try clear hk);(try clear hi);have hcv51 := own_string (P := Tryd.prog) Tryd.underlying30 Tryd.underlying5 Tryd.underlying9 (Kd.own_of_R HO112.out);have hcv52 := Kd.C_string (P := Tryd.prog) (A := (some ad102)) (c := (c0 - x6_1.toNat)) Tryd.underlying30 Tryd.underlying5 Tryd.underlying9 (Kd.C_below HR101.out HB.out);have hcz53_0 : w50.cell? ⟨gb109, 0, none⟩ = some (.int .i64 (wrap64 (rd M0 0))) := (blk_cell BK109.out 0).trans rfl;have hcz53_1 : w50.cell? ⟨gb109, 1, none⟩ = some (.int .i64 (wrap64 (t104))) := (blk_cell BK109.out 1).trans rfl;have hcz53_2 : w50.cell? ⟨gb109, 2, none⟩ = some (.int .i64 (wrap64 (t106))) := (blk_cell BK109.out 2).trans rfl;have hcz53_3 : w50.cell? ⟨gb109, 3, none⟩ = some (.int .i64 (wrap64 (t108))) := (blk_cell BK109.out 3).trans rfl;have hfz53_0 := blk_frozen BK109.out 0;have hfz53_1 := blk_frozen BK109.out 1;have hfz53_2 := blk_frozen BK109.out 2;have hfz53_3 := blk_frozen BK109.out 3)|((with_reducible refine gate_builtin (b := .append) (xs := #[.tmp 60, .tmp 62]) rfl ?_);(try (refine gate_guard (by rfl) ?_;dsimp only));at_builtin;refine Kd.R_append k29 (w0 := w) w.heap.size rfl (.tmp 60) (.tmp 62) 22 29 (.agg #[(.int .i64 0), (.int .i64 0), (.int .i64 0), (.int .i64 0)]) 32 rfl Tryd.underlying22 info29 rfl (by decide) (by omega) u4 x4_1 (⟨wrap64 (rd M0 0), wrap64 (t104), wrap64 (t106), wrap64 (t108)⟩ : S29) [.int .i64 (wrap64 (rd M0 0)), .int .i64 (wrap64 (t104)), .int .i64 (wrap64 (t106)), .int .i64 (wrap64 (t108))] (fun k_ => k_ ≠ gb109) (fun _ => False) rfl rfl ?aP (fun _ hk => hk.elim) ?aF ?aO ?aB ?aS ?aL ?_;(case aP => exact k29_mkM _ _ _ (⟨wrap64 (rd M0 0), wrap64 (t104), wrap64 (t106), wrap64 (t108)⟩ : S29));(case aB => exact (by repeat (first|(with_reducible first|exact HB.out|apply below_alloc|apply pw_below_drewN|apply below_drew1|refine below_set ?_ GE109.out)|exact HB.out)));(case aF => exact (fun k_ hk => Kd.freshB (g := gb109) (o := .cells #[.int .i64 (wrap64 (rd M0 0)), .int .i64 (wrap64 (t104)), .int .i64 (wrap64 (t106)), .int .i64 (wrap64 (t108))] 29 (0, 0)) (by (with_reducible repeat (first|refine blk_drewN ?_ _|refine blk_drew ?_|refine blk_alloc ?_ _));exact BK109.out) k_ hk));(case aO => exact (by (with_reducible repeat (first|apply Kd.R_alloc|apply Kd.R_drewN|apply Kd.R_drew));exact HO_4.out));(case aS => exact (below_size (by repeat (first|(with_reducible first|exact HB.out|apply below_alloc|apply pw_below_drewN|apply below_drew1|refine below_set ?_ GE109.out)|exact HB.out))));(case aL => have := LMc35.out;omega);intro v116 w54 ho hb hg hat;rw [← Ny115.out] at ho;have n0_ := Aside0.mk (blk_grown (g := gb109) (o := .cells #[.int .i64 (wrap64 (rd M0 0)), .int .i64 (wrap64 (t104)), .int .i64 (wrap64 (t106)), .int .i64 (wrap64 (t108))] 29 (0, 0)) (by (with_reducible repeat (first|refine blk_drewN ?_ _|refine blk_drew ?_|refine blk_alloc ?_ _));exact BK109.out) hg (Kd.R_away HO_4.out (fun _ hk => hk)));have n1_ := Aside0.mk (Kd.R_over' (by (with_reducible repeat (first|apply Kd.R_alloc|apply Kd.R_drewN|apply Kd.R_drew));exact HO112.out) (Kd.R_typed (by (with_reducible repeat (first|apply Kd.R_alloc|apply Kd.R_drewN|apply Kd.R_drew));exact HO_4.out)) (by decide) hg);have n2_ := Aside0.mk (hb);have n3_ := Aside0.mk (ho);clear BK109;clear HO112;clear HB;clear HO_4;have BK109 := n0_;have HO112 := n1_;have HB := n2_;have HO117 := n3_;clear n0_ n1_ n2_ n3_;clear ho hb hg hat))
                go_roundg kj1
                case measure => have := HK1.out;have := HJ1.out;omega
                case rel => exact ⟨(y115), (t113), (wrap64 (x6_1 + 33)), (by first|rfl|(simp;done)|(simp [*];done)), (by first|rfl|(simp;done)|(simp [*];done)), H', ⟨by have := HK1.out;have := HJ1.out;omega⟩, ⟨by (with_reducible repeat (first|apply Kd.R_alloc|apply Kd.R_drewN|apply Kd.R_drew));exact Kd.R_mono HO117.out (fun _ hk => trivial)⟩, ⟨by repeat (first|(with_reducible first|exact HB.out|apply below_alloc|apply pw_below_drewN|apply below_drew1|refine below_set ?_ GE109.out)|exact HB.out)⟩⟩
               ·rw [if_neg c35] at H
                exact absurd H (by simp)
              ·rw [if_neg c34] at H
               have c34b0 : ((strOfNums t110).toList == (strOfNums M0).toList) = false := beq_eq_false_iff_ne.mpr c34
               have c34b1 : ((strOfNums t110).toList != (strOfNums M0).toList) = true := bne_iff_ne.mpr c34
               simp only [Option.some.injEq, Prod.mk.injEq] at H
               obtain ⟨rfl, rfl⟩ := H
               obtain ⟨i055, hi055, _, hsz55, _⟩ := info_parts info5
               obtain ⟨A55, hcut55, hA55, hC55⟩ := print_mid_of (P := Tryd.prog) (Value.int .u8) 0 30 5 .i64 .i64 Tryd.underlying30 hi055 hsz55 A0 c0 l0 x6_1 (wrap64 (x6_1 + 33)) (of_decide_eq_true (by first|(with_reducible assumption)|assumption)) (by first|omega|exact of_decide_eq_true (by first|(with_reducible assumption)|assumption)) (of_decide_eq_true (by first|(with_reducible assumption)|assumption)) HC0.out
               (try simp only [Int.reduceToNat] at hcut55 hA55 hC55)
               (try rw [← HM0.out] at hcut55)
               (try rw [← HM0.out] at hA55)
               (try rw [← HM0.out] at hC55)
               (try rw [← HM1.out] at hcut55)
               (try rw [← HM1.out] at hA55)
               (try rw [← HM1.out] at hC55)
               (try rw [← HM9.out] at hcut55)
               (try rw [← HM9.out] at hA55)
               (try rw [← HM9.out] at hC55)
               (try rw [← HM17.out] at hcut55)
               (try rw [← HM17.out] at hA55)
               (try rw [← HM17.out] at hC55)
               have HR101 := Aside0.mk (Kd.C_of_reads (h1 := fun _ => rfl) (hA55 _ (Kd.reads_of_C HR0.out)))
               have HC101 := Aside0.mk hC55
               clear hA55 hC55 hi055 hsz55
               try go_wp2
               have n0_ := Aside0.mk (Kd.R_drew HO_4.out)
               have n1_ := Aside0.mk (below_drew1 HB.out)
               clear HO_4
               clear HB
               have HO_4 := n0_
               have HB := n1_
               clear n0_ n1_
               have p102 : 0 ≤ (0 : Int) := (by omega)
               have q102 : 0 < (M0.length : Int) := of_decide_eq_true (by first|(with_reducible assumption)|assumption)
               obtain ⟨ad102, e102, hx102_0⟩ := Kd.at_int HR101.out 0 p102 q102
               have hw102_0 := hx102_0
               (try rw [show ((0 : Int)).toNat = 0 from rfl] at hw102_0)
               (try rw [show 0 * 1 = 0 from rfl] at hw102_0)
               (try rw [Addr.add_zero'] at hw102_0)
               cases e102
               have qi102 : (0 < M0.length) = True := eq_true (by omega)
               (try rw [show ((0 : Int)).toNat = 0 from rfl] at hx102_0)
               (try rw [Addr.add_zero'] at hx102_0)
               replace hx102_0 := (HB.out.cell (World.block_lt_of_cell? w _ hx102_0)).trans hx102_0
               replace p102 := eq_true p102
               replace q102 := eq_true q102
               obtain ⟨i057, hi057, _, hsz57, _⟩ := info_parts info5
               obtain ⟨A57, hcut57, hA57, hC57⟩ := print_drop_of (P := Tryd.prog) (Value.int .u8) 0 30 5 .i64 Tryd.underlying30 hi057 hsz57 (some ad102) (c0 - x6_1.toNat) M0 1 (by omega) (of_decide_eq_true (by first|(with_reducible assumption)|assumption)) HC101.out
               (try simp only [Int.reduceToNat] at hcut57 hA57 hC57)
               (try rw [← HM0.out] at hcut57)
               (try rw [← HM0.out] at hA57)
               (try rw [← HM0.out] at hC57)
               (try rw [← HM1.out] at hcut57)
               (try rw [← HM1.out] at hA57)
               (try rw [← HM1.out] at hC57)
               (try rw [← HM9.out] at hcut57)
               (try rw [← HM9.out] at hA57)
               (try rw [← HM9.out] at hC57)
               (try rw [← HM17.out] at hcut57)
               (try rw [← HM17.out] at hA57)
               (try rw [← HM17.out] at hC57)
               have HR103 := Aside0.mk (Kd.C_of_reads (h1 := fun _ => rfl) (hA57 _ (Kd.reads_of_C HR101.out)))
               have HC103 := Aside0.mk hC57
               clear hA57 hC57 hi057 hsz57
               obtain ⟨i058, hi058, _, hsz58, _⟩ := info_parts info5
               obtain ⟨A58, hcut58, hA58, hC58⟩ := print_drop_of (P := Tryd.prog) (Value.int .u8) 0 30 5 .i64 Tryd.underlying30 hi058 hsz58 (some ad102) (c0 - x6_1.toNat) M0 9 (by omega) (of_decide_eq_true (by first|(with_reducible assumption)|assumption)) HC101.out
               (try simp only [Int.reduceToNat] at hcut58 hA58 hC58)
               (try rw [← HM0.out] at hcut58)
               (try rw [← HM0.out] at hA58)
               (try rw [← HM0.out] at hC58)
               (try rw [← HM1.out] at hcut58)
               (try rw [← HM1.out] at hA58)
               (try rw [← HM1.out] at hC58)
               (try rw [← HM9.out] at hcut58)
               (try rw [← HM9.out] at hA58)
               (try rw [← HM9.out] at hC58)
               (try rw [← HM17.out] at hcut58)
               (try rw [← HM17.out] at hA58)
               (try rw [← HM17.out] at hC58)
               have HR105 := Aside0.mk (Kd.C_of_reads (h1 := fun _ => rfl) (hA58 _ (Kd.reads_of_C HR101.out)))
               have HC105 := Aside0.mk hC58
               clear hA58 hC58 hi058 hsz58
               obtain ⟨i059, hi059, _, hsz59, _⟩ := info_parts info5
               obtain ⟨A59, hcut59, hA59, hC59⟩ := print_drop_of (P := Tryd.prog) (Value.int .u8) 0 30 5 .i64 Tryd.underlying30 hi059 hsz59 (some ad102) (c0 - x6_1.toNat) M0 17 (by omega) (of_decide_eq_true (by first|(with_reducible assumption)|assumption)) HC101.out
               (try simp only [Int.reduceToNat] at hcut59 hA59 hC59)
               (try rw [← HM0.out] at hcut59)
               (try rw [← HM0.out] at hA59)
               (try rw [← HM0.out] at hC59)
               (try rw [← HM1.out] at hcut59)
               (try rw [← HM1.out] at hA59)
               (try rw [← HM1.out] at hC59)
               (try rw [← HM9.out] at hcut59)
               (try rw [← HM9.out] at hA59)
               (try rw [← HM9.out] at hC59)
               (try rw [← HM17.out] at hcut59)
               (try rw [← HM17.out] at hA59)
               (try rw [← HM17.out] at hC59)
               have HR107 := Aside0.mk (Kd.C_of_reads (h1 := fun _ => rfl) (hA59 _ (Kd.reads_of_C HR101.out)))
               have HC107 := Aside0.mk hC59
               clear hA59 hC59 hi059 hsz59
               refine start_ (n := 19) (S := fun w' => w'.cell? ad102 = some (.int .u8 (rd M0 0))) (ds := []) #[false, false, false, false, false, false, false, false, false, false, false, false, false, false, false, false, false, false, false] (by kernel_rfl) rfl rfl (((HB.out.cell (World.block_lt_of_cell? w _ hw102_0)).trans hw102_0)) (fun hHeld => ?_);refine with_tabW tombolaref46_Read.tab6 tombolaref46_Read.bits6 (fun HT_ HW_ => ?_)
               generalize wc.drew = w56 at HO_4 HB HR103 HR105 HR107 hx102_0 hHeld ⊢
               refine pure_ (i := 0) (N := some 26) (v := ?_) (a' := ?_) #[true, false, false, false, false, false, false, false, false, false, false, false, false, false, false, false, false, false, false] rfl rfl (any_of HT_.out (by kernel_rfl)) (fun _ _ _ h => h) (Or.inl ⟨by rfl, ?_⟩) ?_ ?_
               rotate_left
               ·intro w'
                go_simp
                with_reducible rfl
               rotate_left
               ·simp only [Act.put, List.setIfInBounds_toArray, List.set_cons_zero, List.set_cons_succ, i64_w, i32_w]
                rfl
               refine pure_ (i := 1) (N := some 27) (v := ?_) (a' := ?_) #[true, true, false, false, false, false, false, false, false, false, false, false, false, false, false, false, false, false, false] rfl rfl (any_of HT_.out (by kernel_rfl)) (fun _ _ _ h => h) (Or.inl ⟨by rfl, ?_⟩) ?_ ?_
               rotate_left
               ·intro w'
                go_simp
                with_reducible rfl
               rotate_left
               ·simp only [Act.put, List.setIfInBounds_toArray, List.set_cons_zero, List.set_cons_succ, i64_w, i32_w]
                rfl
               refine pure_ (i := 4) (N := some 30) (v := ?_) (a' := ?_) #[true, true, false, false, true, false, false, false, false, false, false, false, false, false, false, false, false, false, false] rfl rfl (any_of HT_.out (by kernel_rfl)) (fun _ _ _ h => h) (Or.inl ⟨by rfl, ?_⟩) ?_ ?_
               rotate_left
               ·intro w'
                go_simp
                with_reducible rfl
               rotate_left
               ·simp only [Act.put, List.setIfInBounds_toArray, List.set_cons_zero, List.set_cons_succ, i64_w, i32_w]
                rfl
               refine pure_ (i := 5) (N := some 31) (v := ?_) (a' := ?_) #[true, true, false, false, true, true, false, false, false, false, false, false, false, false, false, false, false, false, false] rfl rfl (any_of HT_.out (by kernel_rfl)) (fun _ _ _ h => h) (Or.inl ⟨by rfl, ?_⟩) ?_ ?_
               rotate_left
               ·intro w'
                go_simp
                with_reducible rfl
               rotate_left
               ·simp only [Act.put, List.setIfInBounds_toArray, List.set_cons_zero, List.set_cons_succ, i64_w, i32_w]
                rfl
               refine pure_ (i := 8) (N := some 34) (v := ?_) (a' := ?_) #[true, true, false, false, true, true, false, false, true, false, false, false, false, false, false, false, false, false, false] rfl rfl (any_of HT_.out (by kernel_rfl)) (fun _ _ _ h => h) (Or.inl ⟨by rfl, ?_⟩) ?_ ?_
               rotate_left
               ·intro w'
                go_simp
                with_reducible rfl
               rotate_left
               ·simp only [Act.put, List.setIfInBounds_toArray, List.set_cons_zero, List.set_cons_succ, i64_w, i32_w]
                rfl
               refine pure_ (i := 9) (N := some 35) (v := ?_) (a' := ?_) #[true, true, false, false, true, true, false, false, true, true, false, false, false, false, false, false, false, false, false] rfl rfl (any_of HT_.out (by kernel_rfl)) (fun _ _ _ h => h) (Or.inl ⟨by rfl, ?_⟩) ?_ ?_
               rotate_left
               ·intro w'
                go_simp
                with_reducible rfl
               rotate_left
               ·simp only [Act.put, List.setIfInBounds_toArray, List.set_cons_zero, List.set_cons_succ, i64_w, i32_w]
                rfl
               refine pure_ (i := 12) (N := some 38) (v := ?_) (a' := ?_) #[true, true, false, false, true, true, false, false, true, true, false, false, true, false, false, false, false, false, false] rfl rfl (any_of HT_.out (by kernel_rfl)) (fun _ _ _ h => h) (Or.inl ⟨by rfl, ?_⟩) ?_ ?_
               rotate_left
               ·intro w'
                go_simp
                with_reducible rfl
               rotate_left
               ·simp only [Act.put, List.setIfInBounds_toArray, List.set_cons_zero, List.set_cons_succ, i64_w, i32_w]
                rfl
               refine pure_ (i := 13) (N := some 39) (v := ?_) (a' := ?_) #[true, true, false, false, true, true, false, false, true, true, false, false, true, true, false, false, false, false, false] rfl rfl (any_of HT_.out (by kernel_rfl)) (fun _ _ _ h => h) (Or.inl ⟨by rfl, ?_⟩) ?_ ?_
               rotate_left
               ·intro w'
                go_simp
                with_reducible rfl
               rotate_left
               ·simp only [Act.put, List.setIfInBounds_toArray, List.set_cons_zero, List.set_cons_succ, i64_w, i32_w]
                rfl
               refine take_ (i := 2) (N := some 28) (v := ?_) (a' := ?_) #[true, true, true, false, true, true, false, false, true, true, false, false, true, true, false, false, false, false, false] rfl rfl (take_ofW HT_.out HW_.out (by kernel_rfl)) (fun _ _ _ h => h) (Or.inl ⟨by rfl, ?_⟩) hHeld ?_ ?_
               rotate_left
               ·intro w' s0
                go_simp
                with_reducible rfl
               rotate_left
               ·simp only [Act.put, List.setIfInBounds_toArray, List.set_cons_zero, List.set_cons_succ, i64_w, i32_w]
                rfl
               refine pure_ (i := 3) (N := some 29) (v := ?_) (a' := ?_) #[true, true, true, true, true, true, false, false, true, true, false, false, true, true, false, false, false, false, false] rfl rfl (any_of HT_.out (by kernel_rfl)) (fun _ _ _ h => h) (Or.inl ⟨by rfl, ?_⟩) ?_ ?_
               rotate_left
               ·intro w'
                go_simp
                with_reducible rfl
               rotate_left
               ·simp only [Act.put, List.setIfInBounds_toArray, List.set_cons_zero, List.set_cons_succ, i64_w, i32_w]
                rfl
               refine join_ (σ := Nat) 1 #[true, true, true, true, true, true, true, true, true, true, true, true, true, true, true, true, true, true, false] (fun s_ => [(32, .int .u64 t104), (36, .int .u64 t106), (40, .int .u64 t108), (8, .pointer (some ⟨s_, 0, none⟩)), (33, .int .i64 (wrap64 (t104))), (37, .int .i64 (wrap64 (t106))), (41, .int .i64 (wrap64 (t108))), (42, .agg #[.int .i64 (wrap64 (rd M0 0)), .int .i64 (wrap64 (t104)), .int .i64 (wrap64 (t106)), .int .i64 (wrap64 (t108))])]) (fun s_ w' => (w'.cell? ad102 = some (.int .u8 (rd M0 0))) ∧ (Kd.R k29 29 w' w.heap.size (fun k_ => k_ ≠ s_) u4 x4_1) ∧ (w'.heap[s_]? = some (.cells #[.int .i64 0, .int .i64 0, .int .i64 0, .int .i64 0] 29 (0, 0))) ∧ (w.heap.size ≤ s_) ∧ (w.heap.size ≤ s_) ∧ (Below w.heap.size w w')) ?_ ?_
               rotate_left
               ·intro hCont
                refine two_ (i := 6) (j := 17) (Ni := some 32) (Nj := some 8) #[true, true, true, true, true, true, true, false, true, true, false, false, true, true, false, false, false, false, false] #[true, true, true, true, true, true, false, false, true, true, false, false, true, true, false, false, false, true, false] rfl rfl rfl rfl (two_of HT_.out (by kernel_rfl)) (by decide) (by decide) (fun K hK => ?_) (fun K hK => ?_)
                ·skip
                 refine goes_ Tryd.func25 (by kernel_rfl) rfl #[.slice A57 M1.length ((c0 - x6_1.toNat) - 1)] (by rfl) rfl rfl (by (try simp only [List.map_toArray, List.map_cons, List.map_nil]);first|done|(rw [show M1.length = (M0.length - 1) from List.length_drop] <;> rfl)|rfl|(simp only [List.length_drop, List.length_take];rfl)) ?_
                 with_reducible refine (tombolaref46_number.calls kj1 _ _ M1 t104 _ ?side1 ?side2 A11.out).mono ?_
                 (case side1 => repeat (first|exact (Kd.C_below HR103.out HB.out)|(with_reducible refine Kd.C_alloc ?_ _)|(with_reducible refine Kd.C_drewN ?_ _)|(with_reducible refine Kd.C_drew ?_)))
                 (case side2 => exact HC103.out)
                 rintro e w' ⟨rfl, ⟨nd, rfl⟩⟩
                 refine ⟨_, rfl, ?_⟩
                 refine hK.out _ _ (((HB.out.cell (World.block_lt_of_cell? w _ hw102_0)).trans hw102_0)) (fun hHeld => ?_)
                 clear hK K
                 refine norm_ (a' := ?_) ?_ ?_
                 rotate_left
                 ·show Act.put _ (some 32) _ = _
                  simp only [Act.put, List.setIfInBounds_toArray, List.set_cons_zero, List.set_cons_succ, i64_w, i32_w]
                  rfl
                 refine pure_ (i := 7) (N := some 33) (v := ?_) (a' := ?_) #[true, true, true, true, true, true, true, true, true, true, false, false, true, true, false, false, false, false, false] rfl rfl (any_of HT_.out (by kernel_rfl)) (fun _ _ _ h => h) (Or.inl ⟨by rfl, ?_⟩) ?_ ?_
                 rotate_left
                 ·intro w'
                  go_simp
                  with_reducible rfl
                 rotate_left
                 ·simp only [Act.put, List.setIfInBounds_toArray, List.set_cons_zero, List.set_cons_succ, i64_w, i32_w]
                  rfl
                 refine two_ (i := 10) (j := 17) (Ni := some 36) (Nj := some 8) #[true, true, true, true, true, true, true, true, true, true, true, false, true, true, false, false, false, false, false] #[true, true, true, true, true, true, true, true, true, true, false, false, true, true, false, false, false, true, false] rfl rfl rfl rfl (two_of HT_.out (by kernel_rfl)) (by decide) (by decide) (fun K hK => ?_) (fun K hK => ?_)
                 ·skip
                  refine goes_ Tryd.func25 (by kernel_rfl) rfl #[.slice A58 M9.length ((c0 - x6_1.toNat) - 9)] (by rfl) rfl rfl (by (try simp only [List.map_toArray, List.map_cons, List.map_nil]);first|done|(rw [show M9.length = (M0.length - 9) from List.length_drop] <;> rfl)|rfl|(simp only [List.length_drop, List.length_take];rfl)) ?_
                  with_reducible refine (tombolaref46_number.calls kj1 _ _ M9 t106 _ ?side1 ?side2 A13.out).mono ?_
                  (case side1 => repeat (first|exact (Kd.C_below HR105.out (by repeat (first|(with_reducible first|exact HB.out|apply below_alloc|apply pw_below_drewN|apply below_drew1)|exact HB.out)))|(with_reducible refine Kd.C_alloc ?_ _)|(with_reducible refine Kd.C_drewN ?_ _)|(with_reducible refine Kd.C_drew ?_)))
                  (case side2 => exact HC105.out)
                  rintro e w' ⟨rfl, ⟨nd, rfl⟩⟩
                  refine ⟨_, rfl, ?_⟩
                  refine hK.out _ _ (((HB.out.cell (World.block_lt_of_cell? w _ hw102_0)).trans hw102_0)) (fun hHeld => ?_)
                  clear hK K
                  refine norm_ (a' := ?_) ?_ ?_
                  rotate_left
                  ·show Act.put _ (some 36) _ = _
                   simp only [Act.put, List.setIfInBounds_toArray, List.set_cons_zero, List.set_cons_succ, i64_w, i32_w]
                   rfl
                  refine pure_ (i := 11) (N := some 37) (v := ?_) (a' := ?_) #[true, true, true, true, true, true, true, true, true, true, true, true, true, true, false, false, false, false, false] rfl rfl (any_of HT_.out (by kernel_rfl)) (fun _ _ _ h => h) (Or.inl ⟨by rfl, ?_⟩) ?_ ?_
                  rotate_left
                  ·intro w'
                   go_simp
                   with_reducible rfl
                  rotate_left
                  ·simp only [Act.put, List.setIfInBounds_toArray, List.set_cons_zero, List.set_cons_succ, i64_w, i32_w]
                   rfl
                  refine two_ (i := 14) (j := 17) (Ni := some 40) (Nj := some 8) #[true, true, true, true, true, true, true, true, true, true, true, true, true, true, true, false, false, false, false] #[true, true, true, true, true, true, true, true, true, true, true, true, true, true, false, false, false, true, false] rfl rfl rfl rfl (two_of HT_.out (by kernel_rfl)) (by decide) (by decide) (fun K hK => ?_) (fun K hK => ?_)
                  ·skip
                   refine goes_ Tryd.func25 (by kernel_rfl) rfl #[.slice A59 M17.length ((c0 - x6_1.toNat) - 17)] (by rfl) rfl rfl (by (try simp only [List.map_toArray, List.map_cons, List.map_nil]);first|done|(rw [show M17.length = (M0.length - 17) from List.length_drop] <;> rfl)|rfl|(simp only [List.length_drop, List.length_take];rfl)) ?_
                   with_reducible refine (tombolaref46_number.calls kj1 _ _ M17 t108 _ ?side1 ?side2 A15.out).mono ?_
                   (case side1 => repeat (first|exact (Kd.C_below HR107.out (by repeat (first|(with_reducible first|exact HB.out|apply below_alloc|apply pw_below_drewN|apply below_drew1)|exact HB.out)))|(with_reducible refine Kd.C_alloc ?_ _)|(with_reducible refine Kd.C_drewN ?_ _)|(with_reducible refine Kd.C_drew ?_)))
                   (case side2 => exact HC107.out)
                   rintro e w' ⟨rfl, ⟨nd, rfl⟩⟩
                   refine ⟨_, rfl, ?_⟩
                   refine hK.out _ _ (((HB.out.cell (World.block_lt_of_cell? w _ hw102_0)).trans hw102_0)) (fun hHeld => ?_)
                   clear hK K
                   refine norm_ (a' := ?_) ?_ ?_
                   rotate_left
                   ·show Act.put _ (some 40) _ = _
                    simp only [Act.put, List.setIfInBounds_toArray, List.set_cons_zero, List.set_cons_succ, i64_w, i32_w]
                    rfl
                   refine pure_ (i := 15) (N := some 41) (v := ?_) (a' := ?_) #[true, true, true, true, true, true, true, true, true, true, true, true, true, true, true, true, false, false, false] rfl rfl (any_of HT_.out (by kernel_rfl)) (fun _ _ _ h => h) (Or.inl ⟨by rfl, ?_⟩) ?_ ?_
                   rotate_left
                   ·intro w'
                    go_simp
                    with_reducible rfl
                   rotate_left
                   ·simp only [Act.put, List.setIfInBounds_toArray, List.set_cons_zero, List.set_cons_succ, i64_w, i32_w]
                    rfl
                   refine pure_ (i := 16) (N := some 42) (v := ?_) (a' := ?_) #[true, true, true, true, true, true, true, true, true, true, true, true, true, true, true, true, true, false, false] rfl rfl (any_of HT_.out (by kernel_rfl)) (fun _ _ _ h => h) (Or.inl ⟨by rfl, ?_⟩) ?_ ?_
                   rotate_left
                   ·intro w'
                    go_simp
                    with_reducible rfl
                   rotate_left
                   ·simp only [Act.put, List.setIfInBounds_toArray, List.set_cons_zero, List.set_cons_succ, i64_w, i32_w]
                    rfl
                   refine one_ (i := 17) (N := some 8) #[true, true, true, true, true, true, true, true, true, true, true, true, true, true, true, true, true, true, false] rfl rfl (one_of HT_.out (by kernel_rfl)) (by decide) (fun K hK => ?_)
                   refine box_step ?hg (N := 8) ?hd (cs := #[.int .i64 0, .int .i64 0, .int .i64 0, .int .i64 0]) (t := 29) ?hr ?_;(case hd => rfl);(case hg => rfl);(case hr => first|(go_simp;done)|(go_simp;rfl))
                   intro gb109 hg w60 hbox hb
                   have n0_ := Aside0.mk (Kd.R_below (Kd.R_elderB (by (with_reducible repeat (first|apply Kd.R_alloc|apply Kd.R_drewN|apply Kd.R_drew));exact HO_4.out) gb109 (Nat.le_of_eq hg.symm)) hb)
                   have n1_ := Aside0.mk (below_step (by repeat (first|(with_reducible first|exact HB.out|apply below_alloc|apply pw_below_drewN|apply below_drew1)|exact HB.out)) hb)
                   have n2_ := Aside0.mk (hbox)
                   have n3_ := Aside0.mk ((by rw [hg];exact (below_size (by repeat (first|(with_reducible first|exact HB.out|apply below_alloc|apply pw_below_drewN|apply below_drew1)|exact HB.out))) : w.heap.size ≤ gb109))
                   have n4_ := Aside0.mk ((by rw [hg];exact (below_size (by repeat (first|(with_reducible first|exact HB.out|apply below_alloc|apply pw_below_drewN|apply below_drew1)|exact HB.out))) : w.heap.size ≤ gb109))
                   clear HO_4
                   clear HB
                   have HO_4 := n0_
                   have HB := n1_
                   have BK109 := n2_
                   have GW109 := n3_
                   have GE109 := n4_
                   clear n0_ n1_ n2_ n3_ n4_
                   clear hb hbox hg
                   refine hK.out _ _ (((HB.out.cell (World.block_lt_of_cell? w _ hw102_0)).trans hw102_0)) (fun hHeld => ?_)
                   clear hK K
                   refine norm_ (a' := ?_) ?_ ?_
                   rotate_left
                   ·show Act.put _ (some 8) _ = _
                    simp only [Act.put, List.setIfInBounds_toArray, List.set_cons_zero, List.set_cons_succ, i64_w, i32_w]
                    rfl
                   exact norm_ (by simp only [putAll, Act.put, List.setIfInBounds_toArray, List.set_cons_zero, List.set_cons_succ]) (hCont (gb109) _ ⟨hHeld, (by (with_reducible repeat (first|apply Kd.R_alloc|apply Kd.R_drewN|apply Kd.R_drew));exact Kd.R_mono HO_4.out (fun _ hk => hk.2)), (by (with_reducible repeat (first|refine blk_drewN ?_ _|refine blk_drew ?_|refine blk_alloc ?_ _));exact BK109.out), GW109.out, GE109.out, (by repeat (first|(with_reducible first|exact HB.out|apply below_alloc|apply pw_below_drewN|apply below_drew1|refine below_set ?_ GE109.out)|exact HB.out))⟩)
                  ·skip
                   refine box_step ?hg (N := 8) ?hd (cs := #[.int .i64 0, .int .i64 0, .int .i64 0, .int .i64 0]) (t := 29) ?hr ?_;(case hd => rfl);(case hg => rfl);(case hr => first|(go_simp;done)|(go_simp;rfl))
                   intro gb109 hg w60 hbox hb
                   have n0_ := Aside0.mk (Kd.R_below (Kd.R_elderB (by (with_reducible repeat (first|apply Kd.R_alloc|apply Kd.R_drewN|apply Kd.R_drew));exact HO_4.out) gb109 (Nat.le_of_eq hg.symm)) hb)
                   have n1_ := Aside0.mk (below_step (by repeat (first|(with_reducible first|exact HB.out|apply below_alloc|apply pw_below_drewN|apply below_drew1)|exact HB.out)) hb)
                   have n2_ := Aside0.mk (hbox)
                   have n3_ := Aside0.mk ((by rw [hg];exact (below_size (by repeat (first|(with_reducible first|exact HB.out|apply below_alloc|apply pw_below_drewN|apply below_drew1)|exact HB.out))) : w.heap.size ≤ gb109))
                   have n4_ := Aside0.mk ((by rw [hg];exact (below_size (by repeat (first|(with_reducible first|exact HB.out|apply below_alloc|apply pw_below_drewN|apply below_drew1)|exact HB.out))) : w.heap.size ≤ gb109))
                   clear HO_4
                   clear HB
                   have HO_4 := n0_
                   have HB := n1_
                   have BK109 := n2_
                   have GW109 := n3_
                   have GE109 := n4_
                   clear n0_ n1_ n2_ n3_ n4_
                   clear hb hbox hg
                   refine hK.out _ _ (((HB.out.cell (World.block_lt_of_cell? w _ hw102_0)).trans hw102_0)) (fun hHeld => ?_)
                   clear hK K
                   refine norm_ (a' := ?_) ?_ ?_
                   rotate_left
                   ·show Act.put _ (some 8) _ = _
                    simp only [Act.put, List.setIfInBounds_toArray, List.set_cons_zero, List.set_cons_succ, i64_w, i32_w]
                    rfl
                   refine one_ (i := 14) (N := some 40) #[true, true, true, true, true, true, true, true, true, true, true, true, true, true, true, false, false, true, false] rfl rfl (one_of HT_.out (by kernel_rfl)) (by decide) (fun K hK => ?_)
                   refine goes_ Tryd.func25 (by kernel_rfl) rfl #[.slice A59 M17.length ((c0 - x6_1.toNat) - 17)] (by rfl) rfl rfl (by (try simp only [List.map_toArray, List.map_cons, List.map_nil]);first|done|(rw [show M17.length = (M0.length - 17) from List.length_drop] <;> rfl)|rfl|(simp only [List.length_drop, List.length_take];rfl)) ?_
                   with_reducible refine (tombolaref46_number.calls kj1 _ _ M17 t108 _ ?side1 ?side2 A15.out).mono ?_
                   (case side1 => repeat (first|exact (Kd.C_below HR107.out HB.out)|(with_reducible refine Kd.C_alloc ?_ _)|(with_reducible refine Kd.C_drewN ?_ _)|(with_reducible refine Kd.C_drew ?_)))
                   (case side2 => exact HC107.out)
                   rintro e w' ⟨rfl, ⟨nd, rfl⟩⟩
                   refine ⟨_, rfl, ?_⟩
                   refine hK.out _ _ (((HB.out.cell (World.block_lt_of_cell? w _ hw102_0)).trans hw102_0)) (fun hHeld => ?_)
                   clear hK K
                   refine norm_ (a' := ?_) ?_ ?_
                   rotate_left
                   ·show Act.put _ (some 40) _ = _
                    simp only [Act.put, List.setIfInBounds_toArray, List.set_cons_zero, List.set_cons_succ, i64_w, i32_w]
                    rfl
                   refine pure_ (i := 15) (N := some 41) (v := ?_) (a' := ?_) #[true, true, true, true, true, true, true, true, true, true, true, true, true, true, true, true, false, true, false] rfl rfl (any_of HT_.out (by kernel_rfl)) (fun _ _ _ h => h) (Or.inl ⟨by rfl, ?_⟩) ?_ ?_
                   rotate_left
                   ·intro w'
                    go_simp
                    with_reducible rfl
                   rotate_left
                   ·simp only [Act.put, List.setIfInBounds_toArray, List.set_cons_zero, List.set_cons_succ, i64_w, i32_w]
                    rfl
                   refine pure_ (i := 16) (N := some 42) (v := ?_) (a' := ?_) #[true, true, true, true, true, true, true, true, true, true, true, true, true, true, true, true, true, true, false] rfl rfl (any_of HT_.out (by kernel_rfl)) (fun _ _ _ h => h) (Or.inl ⟨by rfl, ?_⟩) ?_ ?_
                   rotate_left
                   ·intro w'
                    go_simp
                    with_reducible rfl
                   rotate_left
                   ·simp only [Act.put, List.setIfInBounds_toArray, List.set_cons_zero, List.set_cons_succ, i64_w, i32_w]
                    rfl
                   exact norm_ (by simp only [putAll, Act.put, List.setIfInBounds_toArray, List.set_cons_zero, List.set_cons_succ]) (hCont (gb109) _ ⟨hHeld, (by (with_reducible repeat (first|apply Kd.R_alloc|apply Kd.R_drewN|apply Kd.R_drew));exact Kd.R_mono HO_4.out (fun _ hk => hk.2)), (by (with_reducible repeat (first|refine blk_drewN ?_ _|refine blk_drew ?_|refine blk_alloc ?_ _));exact BK109.out), GW109.out, GE109.out, (by repeat (first|(with_reducible first|exact HB.out|apply below_alloc|apply pw_below_drewN|apply below_drew1|refine below_set ?_ GE109.out)|exact HB.out))⟩)
                 ·skip
                  refine box_step ?hg (N := 8) ?hd (cs := #[.int .i64 0, .int .i64 0, .int .i64 0, .int .i64 0]) (t := 29) ?hr ?_;(case hd => rfl);(case hg => rfl);(case hr => first|(go_simp;done)|(go_simp;rfl))
                  intro gb109 hg w60 hbox hb
                  have n0_ := Aside0.mk (Kd.R_below (Kd.R_elderB (by (with_reducible repeat (first|apply Kd.R_alloc|apply Kd.R_drewN|apply Kd.R_drew));exact HO_4.out) gb109 (Nat.le_of_eq hg.symm)) hb)
                  have n1_ := Aside0.mk (below_step (by repeat (first|(with_reducible first|exact HB.out|apply below_alloc|apply pw_below_drewN|apply below_drew1)|exact HB.out)) hb)
                  have n2_ := Aside0.mk (hbox)
                  have n3_ := Aside0.mk ((by rw [hg];exact (below_size (by repeat (first|(with_reducible first|exact HB.out|apply below_alloc|apply pw_below_drewN|apply below_drew1)|exact HB.out))) : w.heap.size ≤ gb109))
                  have n4_ := Aside0.mk ((by rw [hg];exact (below_size (by repeat (first|(with_reducible first|exact HB.out|apply below_alloc|apply pw_below_drewN|apply below_drew1)|exact HB.out))) : w.heap.size ≤ gb109))
                  clear HO_4
                  clear HB
                  have HO_4 := n0_
                  have HB := n1_
                  have BK109 := n2_
                  have GW109 := n3_
                  have GE109 := n4_
                  clear n0_ n1_ n2_ n3_ n4_
                  clear hb hbox hg
                  refine hK.out _ _ (((HB.out.cell (World.block_lt_of_cell? w _ hw102_0)).trans hw102_0)) (fun hHeld => ?_)
                  clear hK K
                  refine norm_ (a' := ?_) ?_ ?_
                  rotate_left
                  ·show Act.put _ (some 8) _ = _
                   simp only [Act.put, List.setIfInBounds_toArray, List.set_cons_zero, List.set_cons_succ, i64_w, i32_w]
                   rfl
                  refine one_ (i := 10) (N := some 36) #[true, true, true, true, true, true, true, true, true, true, true, false, true, true, false, false, false, true, false] rfl rfl (one_of HT_.out (by kernel_rfl)) (by decide) (fun K hK => ?_)
                  refine goes_ Tryd.func25 (by kernel_rfl) rfl #[.slice A58 M9.length ((c0 - x6_1.toNat) - 9)] (by rfl) rfl rfl (by (try simp only [List.map_toArray, List.map_cons, List.map_nil]);first|done|(rw [show M9.length = (M0.length - 9) from List.length_drop] <;> rfl)|rfl|(simp only [List.length_drop, List.length_take];rfl)) ?_
                  with_reducible refine (tombolaref46_number.calls kj1 _ _ M9 t106 _ ?side1 ?side2 A13.out).mono ?_
                  (case side1 => repeat (first|exact (Kd.C_below HR105.out HB.out)|(with_reducible refine Kd.C_alloc ?_ _)|(with_reducible refine Kd.C_drewN ?_ _)|(with_reducible refine Kd.C_drew ?_)))
                  (case side2 => exact HC105.out)
                  rintro e w' ⟨rfl, ⟨nd, rfl⟩⟩
                  refine ⟨_, rfl, ?_⟩
                  refine hK.out _ _ (((HB.out.cell (World.block_lt_of_cell? w _ hw102_0)).trans hw102_0)) (fun hHeld => ?_)
                  clear hK K
                  refine norm_ (a' := ?_) ?_ ?_
                  rotate_left
                  ·show Act.put _ (some 36) _ = _
                   simp only [Act.put, List.setIfInBounds_toArray, List.set_cons_zero, List.set_cons_succ, i64_w, i32_w]
                   rfl
                  refine pure_ (i := 11) (N := some 37) (v := ?_) (a' := ?_) #[true, true, true, true, true, true, true, true, true, true, true, true, true, true, false, false, false, true, false] rfl rfl (any_of HT_.out (by kernel_rfl)) (fun _ _ _ h => h) (Or.inl ⟨by rfl, ?_⟩) ?_ ?_
                  rotate_left
                  ·intro w'
                   go_simp
                   with_reducible rfl
                  rotate_left
                  ·simp only [Act.put, List.setIfInBounds_toArray, List.set_cons_zero, List.set_cons_succ, i64_w, i32_w]
                   rfl
                  refine one_ (i := 14) (N := some 40) #[true, true, true, true, true, true, true, true, true, true, true, true, true, true, true, false, false, true, false] rfl rfl (one_of HT_.out (by kernel_rfl)) (by decide) (fun K hK => ?_)
                  refine goes_ Tryd.func25 (by kernel_rfl) rfl #[.slice A59 M17.length ((c0 - x6_1.toNat) - 17)] (by rfl) rfl rfl (by (try simp only [List.map_toArray, List.map_cons, List.map_nil]);first|done|(rw [show M17.length = (M0.length - 17) from List.length_drop] <;> rfl)|rfl|(simp only [List.length_drop, List.length_take];rfl)) ?_
                  with_reducible refine (tombolaref46_number.calls kj1 _ _ M17 t108 _ ?side1 ?side2 A15.out).mono ?_
                  (case side1 => repeat (first|exact (Kd.C_below HR107.out (by repeat (first|(with_reducible first|exact HB.out|apply below_alloc|apply pw_below_drewN|apply below_drew1|refine below_set ?_ GE109.out)|exact HB.out)))|(with_reducible refine Kd.C_alloc ?_ _)|(with_reducible refine Kd.C_drewN ?_ _)|(with_reducible refine Kd.C_drew ?_)))
                  (case side2 => exact HC107.out)
                  rintro e w' ⟨rfl, ⟨nd, rfl⟩⟩
                  refine ⟨_, rfl, ?_⟩
                  refine hK.out _ _ (((HB.out.cell (World.block_lt_of_cell? w _ hw102_0)).trans hw102_0)) (fun hHeld => ?_)
                  clear hK K
                  refine norm_ (a' := ?_) ?_ ?_
                  rotate_left
                  ·show Act.put _ (some 40) _ = _
                   simp only [Act.put, List.setIfInBounds_toArray, List.set_cons_zero, List.set_cons_succ, i64_w, i32_w]
                   rfl
                  refine pure_ (i := 15) (N := some 41) (v := ?_) (a' := ?_) #[true, true, true, true, true, true, true, true, true, true, true, true, true, true, true, true, false, true, false] rfl rfl (any_of HT_.out (by kernel_rfl)) (fun _ _ _ h => h) (Or.inl ⟨by rfl, ?_⟩) ?_ ?_
                  rotate_left
                  ·intro w'
                   go_simp
                   with_reducible rfl
                  rotate_left
                  ·simp only [Act.put, List.setIfInBounds_toArray, List.set_cons_zero, List.set_cons_succ, i64_w, i32_w]
                   rfl
                  refine pure_ (i := 16) (N := some 42) (v := ?_) (a' := ?_) #[true, true, true, true, true, true, true, true, true, true, true, true, true, true, true, true, true, true, false] rfl rfl (any_of HT_.out (by kernel_rfl)) (fun _ _ _ h => h) (Or.inl ⟨by rfl, ?_⟩) ?_ ?_
                  rotate_left
                  ·intro w'
                   go_simp
                   with_reducible rfl
                  rotate_left
                  ·simp only [Act.put, List.setIfInBounds_toArray, List.set_cons_zero, List.set_cons_succ, i64_w, i32_w]
                   rfl
                  exact norm_ (by simp only [putAll, Act.put, List.setIfInBounds_toArray, List.set_cons_zero, List.set_cons_succ]) (hCont (gb109) _ ⟨hHeld, (by (with_reducible repeat (first|apply Kd.R_alloc|apply Kd.R_drewN|apply Kd.R_drew));exact Kd.R_mono HO_4.out (fun _ hk => hk.2)), (by (with_reducible repeat (first|refine blk_drewN ?_ _|refine blk_drew ?_|refine blk_alloc ?_ _));exact BK109.out), GW109.out, GE109.out, (by repeat (first|(with_reducible first|exact HB.out|apply below_alloc|apply pw_below_drewN|apply below_drew1|refine below_set ?_ GE109.out)|exact HB.out))⟩)
                ·skip
                 refine box_step ?hg (N := 8) ?hd (cs := #[.int .i64 0, .int .i64 0, .int .i64 0, .int .i64 0]) (t := 29) ?hr ?_;(case hd => rfl);(case hg => rfl);(case hr => first|(go_simp;done)|(go_simp;rfl))
                 intro gb109 hg w60 hbox hb
                 have n0_ := Aside0.mk (Kd.R_below (Kd.R_elderB (by (with_reducible repeat (first|apply Kd.R_alloc|apply Kd.R_drewN|apply Kd.R_drew));exact HO_4.out) gb109 (Nat.le_of_eq hg.symm)) hb)
                 have n1_ := Aside0.mk (below_step (by repeat (first|(with_reducible first|exact HB.out|apply below_alloc|apply pw_below_drewN|apply below_drew1)|exact HB.out)) hb)
                 have n2_ := Aside0.mk (hbox)
                 have n3_ := Aside0.mk ((by rw [hg];exact (below_size (by repeat (first|(with_reducible first|exact HB.out|apply below_alloc|apply pw_below_drewN|apply below_drew1)|exact HB.out))) : w.heap.size ≤ gb109))
                 have n4_ := Aside0.mk ((by rw [hg];exact (below_size (by repeat (first|(with_reducible first|exact HB.out|apply below_alloc|apply pw_below_drewN|apply below_drew1)|exact HB.out))) : w.heap.size ≤ gb109))
                 clear HO_4
                 clear HB
                 have HO_4 := n0_
                 have HB := n1_
                 have BK109 := n2_
                 have GW109 := n3_
                 have GE109 := n4_
                 clear n0_ n1_ n2_ n3_ n4_
                 clear hb hbox hg
                 refine hK.out _ _ (((HB.out.cell (World.block_lt_of_cell? w _ hw102_0)).trans hw102_0)) (fun hHeld => ?_)
                 clear hK K
                 refine norm_ (a' := ?_) ?_ ?_
                 rotate_left
                 ·show Act.put _ (some 8) _ = _
                  simp only [Act.put, List.setIfInBounds_toArray, List.set_cons_zero, List.set_cons_succ, i64_w, i32_w]
                  rfl
                 refine one_ (i := 6) (N := some 32) #[true, true, true, true, true, true, true, false, true, true, false, false, true, true, false, false, false, true, false] rfl rfl (one_of HT_.out (by kernel_rfl)) (by decide) (fun K hK => ?_)
                 refine goes_ Tryd.func25 (by kernel_rfl) rfl #[.slice A57 M1.length ((c0 - x6_1.toNat) - 1)] (by rfl) rfl rfl (by (try simp only [List.map_toArray, List.map_cons, List.map_nil]);first|done|(rw [show M1.length = (M0.length - 1) from List.length_drop] <;> rfl)|rfl|(simp only [List.length_drop, List.length_take];rfl)) ?_
                 with_reducible refine (tombolaref46_number.calls kj1 _ _ M1 t104 _ ?side1 ?side2 A11.out).mono ?_
                 (case side1 => repeat (first|exact (Kd.C_below HR103.out HB.out)|(with_reducible refine Kd.C_alloc ?_ _)|(with_reducible refine Kd.C_drewN ?_ _)|(with_reducible refine Kd.C_drew ?_)))
                 (case side2 => exact HC103.out)
                 rintro e w' ⟨rfl, ⟨nd, rfl⟩⟩
                 refine ⟨_, rfl, ?_⟩
                 refine hK.out _ _ (((HB.out.cell (World.block_lt_of_cell? w _ hw102_0)).trans hw102_0)) (fun hHeld => ?_)
                 clear hK K
                 refine norm_ (a' := ?_) ?_ ?_
                 rotate_left
                 ·show Act.put _ (some 32) _ = _
                  simp only [Act.put, List.setIfInBounds_toArray, List.set_cons_zero, List.set_cons_succ, i64_w, i32_w]
                  rfl
                 refine pure_ (i := 7) (N := some 33) (v := ?_) (a' := ?_) #[true, true, true, true, true, true, true, true, true, true, false, false, true, true, false, false, false, true, false] rfl rfl (any_of HT_.out (by kernel_rfl)) (fun _ _ _ h => h) (Or.inl ⟨by rfl, ?_⟩) ?_ ?_
                 rotate_left
                 ·intro w'
                  go_simp
                  with_reducible rfl
                 rotate_left
                 ·simp only [Act.put, List.setIfInBounds_toArray, List.set_cons_zero, List.set_cons_succ, i64_w, i32_w]
                  rfl
                 refine one_ (i := 10) (N := some 36) #[true, true, true, true, true, true, true, true, true, true, true, false, true, true, false, false, false, true, false] rfl rfl (one_of HT_.out (by kernel_rfl)) (by decide) (fun K hK => ?_)
                 refine goes_ Tryd.func25 (by kernel_rfl) rfl #[.slice A58 M9.length ((c0 - x6_1.toNat) - 9)] (by rfl) rfl rfl (by (try simp only [List.map_toArray, List.map_cons, List.map_nil]);first|done|(rw [show M9.length = (M0.length - 9) from List.length_drop] <;> rfl)|rfl|(simp only [List.length_drop, List.length_take];rfl)) ?_
                 with_reducible refine (tombolaref46_number.calls kj1 _ _ M9 t106 _ ?side1 ?side2 A13.out).mono ?_
                 (case side1 => repeat (first|exact (Kd.C_below HR105.out (by repeat (first|(with_reducible first|exact HB.out|apply below_alloc|apply pw_below_drewN|apply below_drew1|refine below_set ?_ GE109.out)|exact HB.out)))|(with_reducible refine Kd.C_alloc ?_ _)|(with_reducible refine Kd.C_drewN ?_ _)|(with_reducible refine Kd.C_drew ?_)))
                 (case side2 => exact HC105.out)
                 rintro e w' ⟨rfl, ⟨nd, rfl⟩⟩
                 refine ⟨_, rfl, ?_⟩
                 refine hK.out _ _ (((HB.out.cell (World.block_lt_of_cell? w _ hw102_0)).trans hw102_0)) (fun hHeld => ?_)
                 clear hK K
                 refine norm_ (a' := ?_) ?_ ?_
                 rotate_left
                 ·show Act.put _ (some 36) _ = _
                  simp only [Act.put, List.setIfInBounds_toArray, List.set_cons_zero, List.set_cons_succ, i64_w, i32_w]
                  rfl
                 refine pure_ (i := 11) (N := some 37) (v := ?_) (a' := ?_) #[true, true, true, true, true, true, true, true, true, true, true, true, true, true, false, false, false, true, false] rfl rfl (any_of HT_.out (by kernel_rfl)) (fun _ _ _ h => h) (Or.inl ⟨by rfl, ?_⟩) ?_ ?_
                 rotate_left
                 ·intro w'
                  go_simp
                  with_reducible rfl
                 rotate_left
                 ·simp only [Act.put, List.setIfInBounds_toArray, List.set_cons_zero, List.set_cons_succ, i64_w, i32_w]
                  rfl
                 refine one_ (i := 14) (N := some 40) #[true, true, true, true, true, true, true, true, true, true, true, true, true, true, true, false, false, true, false] rfl rfl (one_of HT_.out (by kernel_rfl)) (by decide) (fun K hK => ?_)
                 refine goes_ Tryd.func25 (by kernel_rfl) rfl #[.slice A59 M17.length ((c0 - x6_1.toNat) - 17)] (by rfl) rfl rfl (by (try simp only [List.map_toArray, List.map_cons, List.map_nil]);first|done|(rw [show M17.length = (M0.length - 17) from List.length_drop] <;> rfl)|rfl|(simp only [List.length_drop, List.length_take];rfl)) ?_
                 with_reducible refine (tombolaref46_number.calls kj1 _ _ M17 t108 _ ?side1 ?side2 A15.out).mono ?_
                 (case side1 => repeat (first|exact (Kd.C_below HR107.out (by repeat (first|(with_reducible first|exact HB.out|apply below_alloc|apply pw_below_drewN|apply below_drew1|refine below_set ?_ GE109.out)|exact HB.out)))|(with_reducible refine Kd.C_alloc ?_ _)|(with_reducible refine Kd.C_drewN ?_ _)|(with_reducible refine Kd.C_drew ?_)))
                 (case side2 => exact HC107.out)
                 rintro e w' ⟨rfl, ⟨nd, rfl⟩⟩
                 refine ⟨_, rfl, ?_⟩
                 refine hK.out _ _ (((HB.out.cell (World.block_lt_of_cell? w _ hw102_0)).trans hw102_0)) (fun hHeld => ?_)
                 clear hK K
                 refine norm_ (a' := ?_) ?_ ?_
                 rotate_left
                 ·show Act.put _ (some 40) _ = _
                  simp only [Act.put, List.setIfInBounds_toArray, List.set_cons_zero, List.set_cons_succ, i64_w, i32_w]
                  rfl
                 refine pure_ (i := 15) (N := some 41) (v := ?_) (a' := ?_) #[true, true, true, true, true, true, true, true, true, true, true, true, true, true, true, true, false, true, false] rfl rfl (any_of HT_.out (by kernel_rfl)) (fun _ _ _ h => h) (Or.inl ⟨by rfl, ?_⟩) ?_ ?_
                 rotate_left
                 ·intro w'
                  go_simp
                  with_reducible rfl
                 rotate_left
                 ·simp only [Act.put, List.setIfInBounds_toArray, List.set_cons_zero, List.set_cons_succ, i64_w, i32_w]
                  rfl
                 refine pure_ (i := 16) (N := some 42) (v := ?_) (a' := ?_) #[true, true, true, true, true, true, true, true, true, true, true, true, true, true, true, true, true, true, false] rfl rfl (any_of HT_.out (by kernel_rfl)) (fun _ _ _ h => h) (Or.inl ⟨by rfl, ?_⟩) ?_ ?_
                 rotate_left
                 ·intro w'
                  go_simp
                  with_reducible rfl
                 rotate_left
                 ·simp only [Act.put, List.setIfInBounds_toArray, List.set_cons_zero, List.set_cons_succ, i64_w, i32_w]
                  rfl
                 exact norm_ (by simp only [putAll, Act.put, List.setIfInBounds_toArray, List.set_cons_zero, List.set_cons_succ]) (hCont (gb109) _ ⟨hHeld, (by (with_reducible repeat (first|apply Kd.R_alloc|apply Kd.R_drewN|apply Kd.R_drew));exact Kd.R_mono HO_4.out (fun _ hk => hk.2)), (by (with_reducible repeat (first|refine blk_drewN ?_ _|refine blk_drew ?_|refine blk_alloc ?_ _));exact BK109.out), GW109.out, GE109.out, (by repeat (first|(with_reducible first|exact HB.out|apply below_alloc|apply pw_below_drewN|apply below_drew1|refine below_set ?_ GE109.out)|exact HB.out))⟩)
               rintro gb109 w61 ⟨hS_, h0_, h1_, h2_, h3_, h4_⟩
               have n0_ : Aside0 (Kd.R k29 29 w61 w.heap.size (fun k_ => k_ ≠ gb109) u4 x4_1) := ⟨h0_⟩
               have n1_ : Aside0 (w61.heap[gb109]? = some (.cells #[.int .i64 0, .int .i64 0, .int .i64 0, .int .i64 0] 29 (0, 0))) := ⟨h1_⟩
               have n2_ : Aside0 (w.heap.size ≤ gb109) := ⟨h2_⟩
               have n3_ : Aside0 (w.heap.size ≤ gb109) := ⟨h3_⟩
               have n4_ : Aside0 (Below w.heap.size w w61) := ⟨h4_⟩
               clear HO_4
               clear HB
               clear h0_ h1_ h2_ h3_ h4_
               have HO_4 := n0_
               have BK109 := n1_
               have GW109 := n2_
               have GE109 := n3_
               have HB := n4_
               clear n0_ n1_ n2_ n3_ n4_
               have hHeld : w61.cell? ad102 = some (.int .u8 (rd M0 0)) := hS_
               refine norm_ (a' := ?_) ?_ ?_
               rotate_left
               ·simp only [putAll, Act.put, List.setIfInBounds_toArray, List.set_cons_zero, List.set_cons_succ]
                rfl
               refine one_ (i := 18) (N := none) #[true, true, true, true, true, true, true, true, true, true, true, true, true, true, true, true, true, true, true] rfl rfl (one_of HT_.out (by kernel_rfl)) (by decide) (fun K hK => ?_)
               have hs62 : w61.cell? ⟨gb109, 0, none⟩ = some (.int .i64 0) := (blk_cell BK109.out 0).trans rfl
               have hfs62 := blk_frozen BK109.out 0
               have hs63 : w61.cell? ⟨gb109, 1, none⟩ = some (.int .i64 0) := (blk_cell BK109.out 1).trans rfl
               have hfs63 := blk_frozen BK109.out 1
               have hs64 : w61.cell? ⟨gb109, 2, none⟩ = some (.int .i64 0) := (blk_cell BK109.out 2).trans rfl
               have hfs64 := blk_frozen BK109.out 2
               have hs65 : w61.cell? ⟨gb109, 3, none⟩ = some (.int .i64 0) := (blk_cell BK109.out 3).trans rfl
               have hfs65 := blk_frozen BK109.out 3
               refine skip_ (w1 := ?_) (by rfl) rfl ?_ ?_
               rotate_left
               ·go_simp
                rfl
               refine hK.out _ _ (((cell_far (p := ⟨gb109, _, none⟩) (by first|exact Nat.ne_of_lt (Nat.lt_of_lt_of_le (by have := World.block_lt_of_cell? _ _ hw102_0;first|rwa [add_block] at this|exact this) GW109.out)|(rw [add_block];exact Nat.ne_of_lt (Nat.lt_of_lt_of_le (by have := World.block_lt_of_cell? _ _ hw102_0;first|rwa [add_block] at this|exact this) GW109.out))|(show (Addr.add _ _).block ≠ _;rw [add_block];exact Nat.ne_of_lt (Nat.lt_of_lt_of_le (by have := World.block_lt_of_cell? _ _ hw102_0;first|rwa [add_block] at this|exact this) GW109.out))|(dsimp only;exact Nat.ne_of_lt (Nat.lt_of_lt_of_le (by have := World.block_lt_of_cell? _ _ hw102_0;first|rwa [add_block] at this|exact this) GW109.out))) _).trans (((cell_far (p := ⟨gb109, _, none⟩) (by first|exact Nat.ne_of_lt (Nat.lt_of_lt_of_le (by have := World.block_lt_of_cell? _ _ hw102_0;first|rwa [add_block] at this|exact this) GW109.out)|(rw [add_block];exact Nat.ne_of_lt (Nat.lt_of_lt_of_le (by have := World.block_lt_of_cell? _ _ hw102_0;first|rwa [add_block] at this|exact this) GW109.out))|(show (Addr.add _ _).block ≠ _;rw [add_block];exact Nat.ne_of_lt (Nat.lt_of_lt_of_le (by have := World.block_lt_of_cell? _ _ hw102_0;first|rwa [add_block] at this|exact this) GW109.out))|(dsimp only;exact Nat.ne_of_lt (Nat.lt_of_lt_of_le (by have := World.block_lt_of_cell? _ _ hw102_0;first|rwa [add_block] at this|exact this) GW109.out))) _).trans (((cell_far (p := ⟨gb109, _, none⟩) (by first|exact Nat.ne_of_lt (Nat.lt_of_lt_of_le (by have := World.block_lt_of_cell? _ _ hw102_0;first|rwa [add_block] at this|exact this) GW109.out)|(rw [add_block];exact Nat.ne_of_lt (Nat.lt_of_lt_of_le (by have := World.block_lt_of_cell? _ _ hw102_0;first|rwa [add_block] at this|exact this) GW109.out))|(show (Addr.add _ _).block ≠ _;rw [add_block];exact Nat.ne_of_lt (Nat.lt_of_lt_of_le (by have := World.block_lt_of_cell? _ _ hw102_0;first|rwa [add_block] at this|exact this) GW109.out))|(dsimp only;exact Nat.ne_of_lt (Nat.lt_of_lt_of_le (by have := World.block_lt_of_cell? _ _ hw102_0;first|rwa [add_block] at this|exact this) GW109.out))) _).trans (((cell_far (p := ⟨gb109, _, none⟩) (by first|exact Nat.ne_of_lt (Nat.lt_of_lt_of_le (by have := World.block_lt_of_cell? _ _ hw102_0;first|rwa [add_block] at this|exact this) GW109.out)|(rw [add_block];exact Nat.ne_of_lt (Nat.lt_of_lt_of_le (by have := World.block_lt_of_cell? _ _ hw102_0;first|rwa [add_block] at this|exact this) GW109.out))|(show (Addr.add _ _).block ≠ _;rw [add_block];exact Nat.ne_of_lt (Nat.lt_of_lt_of_le (by have := World.block_lt_of_cell? _ _ hw102_0;first|rwa [add_block] at this|exact this) GW109.out))|(dsimp only;exact Nat.ne_of_lt (Nat.lt_of_lt_of_le (by have := World.block_lt_of_cell? _ _ hw102_0;first|rwa [add_block] at this|exact this) GW109.out))) _).trans (hHeld))))))))) (fun hHeld => ?_)
               clear hK K
               refine done_ (done_of HT_.out (by kernel_rfl)) ?_
               have hcz66_0 : w61.cell? ⟨gb109, 0, none⟩ = some (.int .i64 0) := (blk_cell BK109.out 0).trans rfl
               have hcz66_1 : w61.cell? ⟨gb109, 1, none⟩ = some (.int .i64 0) := (blk_cell BK109.out 1).trans rfl
               have hcz66_2 : w61.cell? ⟨gb109, 2, none⟩ = some (.int .i64 0) := (blk_cell BK109.out 2).trans rfl
               have hcz66_3 : w61.cell? ⟨gb109, 3, none⟩ = some (.int .i64 0) := (blk_cell BK109.out 3).trans rfl
               have hfz66_0 := blk_frozen BK109.out 0
               have hfz66_1 := blk_frozen BK109.out 1
               have hfz66_2 := blk_frozen BK109.out 2
               have hfz66_3 := blk_frozen BK109.out 3
               try go_wp2_with (first|((with_reducible refine gate_callee (f := 13) rfl ?_);refine goesL_ (some 46) rfl rfl Tryd.func13 (by kernel_rfl) rfl #[.int .u64 x5_1, .agg #[.int .i64 (wrap64 (rd M0 0)), .int .i64 (wrap64 (t104)), .int .i64 (wrap64 (t106)), .int .i64 (wrap64 (t108))]] rfl (by (try simp only [List.map_toArray, List.map_cons, List.map_nil]);first|done|rfl|(simp only [List.length_drop, List.length_take];rfl)) ?_;(with_reducible refine (tombolaref46_Frame.calls kj1 x5_1 (wrap64 (rd M0 0)) (wrap64 (t104)) (wrap64 (t106)) (wrap64 (t108)) t110 t113 _ A16.out).mono ?_);rintro e w67 ⟨v111, rfl, ho0, hb⟩;refine ⟨_, rfl, ?_⟩;have n0_ := Aside0.mk (Kd.R_below (by (with_reducible repeat (first|apply Kd.R_alloc|apply Kd.R_drewN|apply Kd.R_drew));exact (Kd.R_mono (Kd.R_far (p := ⟨gb109, 3, none⟩) (Kd.R_far (p := ⟨gb109, 2, none⟩) (Kd.R_far (p := ⟨gb109, 1, none⟩) (Kd.R_far (p := ⟨gb109, 0, none⟩) (Kd.R_mono HO_4.out (fun k_ hk => (⟨hk, hk⟩ : _ ∧ k_ ≠ gb109))) (fun _ hk => hk.2) (.int .i64 (wrap64 (rd M0 0)))) (fun _ hk => hk.2) (.int .i64 (wrap64 (t104)))) (fun _ hk => hk.2) (.int .i64 (wrap64 (t106)))) (fun _ hk => hk.2) (.int .i64 (wrap64 (t108)))) (fun _ h_ => h_.1))) hb);have n1_ := Aside0.mk (Kd.R_lower ho0 (below_size (by repeat (first|(with_reducible first|exact HB.out|apply below_alloc|apply pw_below_drewN|apply below_drew1|refine below_set ?_ GE109.out)|exact HB.out))));have n2_ := Aside0.mk (blk_below (g := gb109) (o := .cells #[.int .i64 (wrap64 (rd M0 0)), .int .i64 (wrap64 (t104)), .int .i64 (wrap64 (t106)), .int .i64 (wrap64 (t108))] 29 (0, 0)) (by (with_reducible repeat (first|refine blk_drewN ?_ _|refine blk_drew ?_|refine blk_alloc ?_ _));refine blk_put (cs := #[.int .i64 (wrap64 (rd M0 0)), .int .i64 (wrap64 (t104)), .int .i64 (wrap64 (t106)), .int .i64 0]) ?_ 3 _ rfl;(with_reducible repeat (first|refine blk_drewN ?_ _|refine blk_drew ?_|refine blk_alloc ?_ _));refine blk_put (cs := #[.int .i64 (wrap64 (rd M0 0)), .int .i64 (wrap64 (t104)), .int .i64 0, .int .i64 0]) ?_ 2 _ rfl;(with_reducible repeat (first|refine blk_drewN ?_ _|refine blk_drew ?_|refine blk_alloc ?_ _));refine blk_put (cs := #[.int .i64 (wrap64 (rd M0 0)), .int .i64 0, .int .i64 0, .int .i64 0]) ?_ 1 _ rfl;(with_reducible repeat (first|refine blk_drewN ?_ _|refine blk_drew ?_|refine blk_alloc ?_ _));refine blk_put (cs := #[.int .i64 0, .int .i64 0, .int .i64 0, .int .i64 0]) ?_ 0 _ rfl;(with_reducible repeat (first|refine blk_drewN ?_ _|refine blk_drew ?_|refine blk_alloc ?_ _));exact BK109.out) hb);have n3_ := Aside0.mk (below_step (by repeat (first|(with_reducible first|exact HB.out|apply below_alloc|apply pw_below_drewN|apply below_drew1|refine below_set ?_ GE109.out)|exact HB.out)) hb);clear HO_4;clear BK109;clear HB;have HO_4 := n0_;have HO112 := n1_;have BK109 := n2_;have HB := n3_;clear n0_ n1_ n2_ n3_;(try clear hb);(try clear hb2);(try clear hk);(try clear hi);(try clear ho0);have hcz68_0 : w67.cell? ⟨gb109, 0, none⟩ = some (.int .i64 (wrap64 (rd M0 0))) := (blk_cell BK109.out 0).trans rfl;have hcz68_1 : w67.cell? ⟨gb109, 1, none⟩ = some (.int .i64 (wrap64 (t104))) := (blk_cell BK109.out 1).trans rfl;have hcz68_2 : w67.cell? ⟨gb109, 2, none⟩ = some (.int .i64 (wrap64 (t106))) := (blk_cell BK109.out 2).trans rfl;have hcz68_3 : w67.cell? ⟨gb109, 3, none⟩ = some (.int .i64 (wrap64 (t108))) := (blk_cell BK109.out 3).trans rfl;have hfz68_0 := blk_frozen BK109.out 0;have hfz68_1 := blk_frozen BK109.out 1;have hfz68_2 := blk_frozen BK109.out 2;have hfz68_3 := blk_frozen BK109.out 3)|((with_reducible refine gate_callee (f := 15) rfl ?_);refine goesL_ (some 51) rfl rfl Tryd.func15 (by kernel_rfl) rfl #[.int .i64 (wrap64 (rd M0 0))] rfl (by (try simp only [List.map_toArray, List.map_cons, List.map_nil]);first|done|rfl|(simp only [List.length_drop, List.length_take];rfl)) ?_;(with_reducible refine (tombolaref31_Name.calls (wrap64 (rd M0 0)) t114 _ A17.out).mono ?_);rintro e w69 ⟨rfl, hb⟩;refine ⟨_, rfl, ?_⟩;have n0_ := Aside0.mk (Kd.R_below (by (with_reducible repeat (first|apply Kd.R_alloc|apply Kd.R_drewN|apply Kd.R_drew));exact HO_4.out) hb);have n1_ := Aside0.mk (Kd.R_below (by (with_reducible repeat (first|apply Kd.R_alloc|apply Kd.R_drewN|apply Kd.R_drew));exact HO112.out) hb);have n2_ := Aside0.mk (blk_below (g := gb109) (o := .cells #[.int .i64 (wrap64 (rd M0 0)), .int .i64 (wrap64 (t104)), .int .i64 (wrap64 (t106)), .int .i64 (wrap64 (t108))] 29 (0, 0)) (by (with_reducible repeat (first|refine blk_drewN ?_ _|refine blk_drew ?_|refine blk_alloc ?_ _));exact BK109.out) hb);have n3_ := Aside0.mk (below_step (by repeat (first|(with_reducible first|exact HB.out|apply below_alloc|apply pw_below_drewN|apply below_drew1|refine below_set ?_ GE109.out)|exact HB.out)) hb);clear HO_4;clear HO112;clear BK109;clear HB;have HO_4 := n0_;have HO112 := n1_;have BK109 := n2_;have HB := n3_;clear n0_ n1_ n2_ n3_;(try clear hb);(try clear hb2);(try clear hk);(try clear hi);have hcv70 := own_string (P := Tryd.prog) Tryd.underlying30 Tryd.underlying5 Tryd.underlying9 (Kd.own_of_R HO112.out);have hcv71 := Kd.C_string (P := Tryd.prog) (A := (some ad102)) (c := (c0 - x6_1.toNat)) Tryd.underlying30 Tryd.underlying5 Tryd.underlying9 (Kd.C_below HR101.out HB.out)))
               go_ret2
               exact ⟨_, by first|rfl|(simp [errW_none, errW_some] <;> rfl)|(simp [*, errW_none, errW_some] <;> rfl), by (with_reducible repeat (first|apply Kd.R_alloc|apply Kd.R_drewN|apply Kd.R_drew));exact Kd.R_mono HO_4.out (fun _ hk => trivial), by repeat (first|(with_reducible first|exact HB.out|apply below_alloc|apply pw_below_drewN|apply below_drew1|refine below_set ?_ GE109.out)|exact HB.out)⟩
            ·rw [if_neg c14] at H
             exact absurd H (by simp)
           ·rw [if_neg c12] at H
            exact absurd H (by simp)
          ·rw [if_neg c10] at H
           exact absurd H (by simp)
         ·rw [if_neg c9] at H
          exact absurd H (by simp)
        ·rw [if_neg c8] at H
         exact absurd H (by simp)
       ·rw [if_neg c7] at H
        exact absurd H (by simp)
      ·rw [if_neg c6] at H
       exact absurd H (by simp)
     ·replace c5 := Bool.eq_false_iff.mpr c5
      subst c5
      have H1 : (some (x4_1, x6_1)) = some (r1, r2) := by rw [if_neg (show ¬ (false = true) by decide)] at H;exact H
      clear H
      have H := H1
      clear H1
      simp only [Option.some.injEq, Prod.mk.injEq] at H
      obtain ⟨rfl, rfl⟩ := H
      go_wp2
      go_ret2
      exact ⟨_, by first|rfl|(simp [errW_none, errW_some] <;> rfl)|(simp [*, errW_none, errW_some] <;> rfl), by (with_reducible repeat (first|apply Kd.R_alloc|apply Kd.R_drewN|apply Kd.R_drew));exact HO_4.out, by repeat (first|(with_reducible first|exact HB.out|apply below_alloc|apply pw_below_drewN|apply below_drew1)|exact HB.out)⟩
end Go.Proofs.YtocgbbhppegccaaDoor.F
