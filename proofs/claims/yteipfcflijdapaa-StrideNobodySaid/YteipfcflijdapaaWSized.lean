-- Cut for this claim by a program (wip/prune.py) out of the texts that its bench laid or wrote
import Derived.Test.YteipfcflijdapaaStrideTu
import Derived.Test.YteipfcflijdapaaFRef04A
import Derived.Test.YteipfcflijdapaaStride
import Derived.SizedLaws
import Derived.ChangeSlices
section
namespace Go.Proofs.Yteipfcflijdapaa.F
open Go.RowKit Go.Proofs.YteipfcflijdapaaW.PrintWords Go.Proofs.YteipfcflijdapaaW.PrintLast Go.Proofs.YteipfcflijdapaaW.PrintMore
set_option linter.unusedSimpArgs false
set_option linter.unusedVariables false
theorem Sd.grown {base : Nat} {W W2 : World} {g : Nat} {v : Value} {cs : List S73} {row : Option Nat} (h : Sd base W g v cs) (hg : W.grownBy W2 row) (h1 : some g ≠ row) (h2 : ∀ k, row = some k → some k ≠ v.ownBlock) : Sd base W2 g v cs :=
  ⟨blk_grown h.1 hg h1, h.2.1, Kd.R_grown2 h.2.2 rfl hg h2⟩
theorem out_keep {b0 : Nat} {W W2 : World} {g : Nat} {row : Option Nat} {vo : Value} {o : List Int} (h : Kd.R (Kd.int .i64) 3 W b0 (fun _ => True) vo o) (hk : KeepBut W W2 g row) (hg : g < b0) (hr : ∀ k, row = some k → k < b0) : Kd.R (Kd.int .i64) 3 W2 b0 (fun _ => True) vo o :=
  Kd.R_mono (Kd.R_step (Kd.R_bound h) (fun k ho hlt => hk.2 k hlt (by have := ho.2.1; omega) (fun e => by have := hr k e.symm; have := ho.2.1; omega))) (fun _ _ => trivial)
set_option maxHeartbeats 4000000 in
set_option maxRecDepth 100000 in
theorem stride_Run.own (kf : Nat) {base g : Nat} {v : Value} {cs cs' : List S73} {o : List Int} (n : Nat) (w : World) (hS : Sd base w g v cs) (hl : cs.length ≤ 32) (hn : n ≤ 4096) (h : runS kf cs n = some (o, cs')) :
    Calls Try.prog 16 #[.pointer (some ⟨g, 0, none⟩), .int .i64 (n : Int)] w fun e w' => ∃ vo, e = .returned vo ∧ Kd.R (Kd.int .i64) 3 w' w.heap.size (fun _ => True) vo o ∧ Sd base w' g v cs' ∧ KeepBut w w' g v.ownBlock ∧ Below base w w' := by
  have hm1 : max (n : Int) 0 = (n : Int) := by omega
  have hm2 : min (n : Int) 4096 = (n : Int) := by omega
  have HGW := Aside0.mk (blk_lt hS.1)
  have HVW := Aside0.mk (Kd.R_lt hS.2.2)
  have HS := Aside0.mk hS
  have HL := Aside0.mk hl
  have HN := Aside0.mk hn
  have H := Aside0.mk h
  clear hS hl hn h
  go_enter Try.func16, Try.ntmps16
  go_wp2
  go_loopg [4, 10] (n + 1) (fun kq v4 v10 W => ∃ (j : Nat) (vo : Value) (oj : List Int) (cj : List S73), j ≤ n ∧ n - j < kq ∧ v10 = .int .i64 (j : Int) ∧ v4 = vo ∧ Aside0 (runS kf cs j = some (oj, cj)) ∧ Aside0 (Kd.R (Kd.int .i64) 3 W w.heap.size (fun _ => True) vo oj) ∧ Aside0 (Sd base W g v cj) ∧ Aside0 (KeepBut w W g v.ownBlock) ∧ Aside0 (Below base w W))
  case atStart => exact ⟨0, .slice none 0 0, [], cs, Nat.zero_le _, by omega, rfl, rfl, ⟨rfl⟩, ⟨Kd.R_nil _ _ _ _ _⟩, HS, ⟨KeepBut.refl w g _⟩, ⟨Below.refl _ _⟩⟩
  case round =>
    obtain ⟨j, vo, oj, cj, hj0, hj1, rfl, rfl, HJ, HO, HS, HK, HBB⟩ := hrel
    cases gk with
    | zero => exact absurd hj1 (by omega)
    | succ gk =>
      by_cases hlt : j < n
      · have c1 : decide ((j : Int) < (n : Int)) = true := decide_eq_true (by omega)
        have c2 : decide (j < n) = true := decide_eq_true hlt
        obtain ⟨⟨o2, c2_⟩, h2⟩ := runS_le H.out (show j + 1 ≤ n from hlt)
        have H2 := Aside0.mk h2
        obtain ⟨⟨o1, c1_⟩, h3, h4⟩ := Option.bind_eq_some_iff.1 (show (runS kf cs j).bind _ = some (o2, c2_) from h2)
        rw [HJ.out] at h3
        cases h3
        obtain ⟨⟨b, c3_⟩, h5, h6⟩ := Option.map_eq_some_iff.1 h4
        cases h6
        have H5 := Aside0.mk h5
        have HLJ := Aside0.mk (runS_len HJ.out)
        have HLT := Aside0.mk hlt
        have HJ1 := Aside0.mk hj1
        have HWR : Aside0 (wrap64 ((j : Int) + 1) = ((j + 1 : Nat) : Int)) := ⟨by have := HN.out; unfold wrap64; omega⟩
        have hw3 := HWR.out
        have hw4 : IntKind.i64.wrap ((j : Int) + 1) = ((j + 1 : Nat) : Int) := (i64_w _).trans hw3
        obtain ⟨Ao, co, rfl⟩ := Kd.R_slice HO.out
        clear h2 h4 h5 hj1
        go_wp2_with (first
          | (go_at_call 11; refine (stride_Next.turn kf _ HS.out (by have := HLJ.out; have := HL.out; omega) H5.out).mono ?_; rintro e w1 ⟨rfl, hs, hk, hbb⟩; have n4 := Aside0.mk (HBB.out.trans hbb); clear HBB hbb; have HBB := n4; clear n4; have n1 := Aside0.mk hs; have n2 := Aside0.mk (HK.out.trans hk (.inl rfl)); have n3 := Aside0.mk (out_keep HO.out hk HGW.out HVW.out); clear HS HK HO hs hk; have HS := n1; have HK := n2; have HO := n3; clear n1 n2 n3)
          | ((with_reducible refine gate_builtin (b := .append) (xs := #[.tmp 12, .tmp 15]) rfl ?_);at_builtin;refine Kd.R_append (Kd.int .i64) (w0 := w1) w.heap.size rfl (.tmp 12) (.tmp 15) 34 3 (.int .i64 0) 8 rfl Try.underlying34 info3 rfl (by decide) (by omega) (.slice Ao oj.length co) oj b [.int .i64 b] (fun _ => True) (fun _ => False) rfl rfl ?aP (fun _ hk => hk.elim) ?aF ?aO ?aB ?aS ?aL ?_;(case aP => exact rfl);(case aB => exact Below.refl _ _);(case aF => exact (fun _ _ => trivial));(case aO => exact HO.out);(case aS => exact HK.out.1);(case aL => have := HLJ.out; have := HN.out; have := HLT.out; omega);intro v3 w3 ho hb hg hat;have n1 := Aside0.mk (HS.out.grown hg (fun e => by have := Kd.R_base HO.out g e.symm; have := HGW.out; omega) (fun k e e2 => by have := Kd.R_base HO.out k e; have := HVW.out k e2.symm; omega)); have n2 := Aside0.mk ho; have n3 := Aside0.mk (show KeepBut w w3 g v.ownBlock from ⟨Nat.le_trans HK.out.1 hg.size, fun i hi h1 h2 => (hg.block i (Nat.lt_of_lt_of_le hi HK.out.1) (fun e => by have := Kd.R_base HO.out i e.symm; omega)).trans (HK.out.2 i hi h1 h2)⟩); have n4 := Aside0.mk (HBB.out.trans (hb.mono (Nat.le_of_lt (Nat.lt_of_le_of_lt HS.out.2.1 HGW.out)))); clear HBB; have HBB := n4; clear n4; clear HS HO HK ho hb hg hat; have HS := n1; have HO := n2; have HK := n3; clear n1 n2 n3))
        go_roundg gk
        case measure => have := HJ1.out; have := HLT.out; omega
        case rel => exact ⟨j + 1, v3, oj ++ [b], c3_, HLT.out, by have := HJ1.out; have := HLT.out; omega, by first | rfl | rw [HWR.out], rfl, H2, HO, HS, HK, HBB⟩
      · obtain rfl : j = n := by omega
        have c1 : decide ((j : Int) < (j : Int)) = false := decide_eq_false (by omega)
        have hq := HJ.out.symm.trans H.out
        cases hq
        go_wp2
        go_ret
        exact ⟨_, rfl, HO.out, HS.out, HK.out, HBB.out⟩
end Go.Proofs.Yteipfcflijdapaa.F
end
section
namespace Go.Proofs.Yteipfcflijdapaa.F
open Go.RowKit Go.Proofs.YteipfcflijdapaaW.PrintWords Go.Proofs.YteipfcflijdapaaW.PrintLast Go.Proofs.YteipfcflijdapaaW.PrintMore
set_option linter.unusedSimpArgs false
set_option linter.unusedVariables false
theorem sa_total : span_Total.f 10 [1, 2] = some (3, true) := by kernel_rfl
theorem sa_total0 : span_Total.f 10 [0] = some (0, true) := by kernel_rfl
theorem sa_run : runS 20 [⟨1, 0⟩, ⟨2, 0⟩] 3 = some ([0, 1, 1], [⟨1, 1⟩, ⟨2, 2⟩]) := by kernel_rfl
theorem sa_ints : tombolaref11_Ints.f 10 [0, 1, 1] [0, 1, 1] = some true := by kernel_rfl
theorem sa_pass : stride_client_pass.f 20 2 2 = some ([1], [1]) := by kernel_rfl
theorem sa_int : tombolaref04_Int.f 10 1 = some ([1], [1]) := by kernel_rfl
theorem sa_same : tombolaref04_Same.f 10 [1] [1] [1] [1] = some true := by kernel_rfl
theorem sa_int0 : tombolaref04_Int.f 10 0 = some ([], [1]) := by kernel_rfl
theorem sa_pass0 : stride_client_pass.f 20 0 0 = some ([], [1]) := by kernel_rfl
theorem sa_same0 : tombolaref04_Same.f 10 [] [1] [] [1] = some true := by kernel_rfl
set_option maxHeartbeats 4000000 in
set_option maxRecDepth 100000 in
theorem stride_New.idle (K : Nat) (A : Option Addr) (c : Nat) (l : List Int) (w : World) (hr : Kd.C (Kd.int .u64) w A l.length l) (hc : l.length ≤ c) (hl : l.length ≤ 32) (h : span_Total.f K l = some (0, true)) :
    Calls Try.prog 8 #[.slice A l.length c] w fun e w' => e = .returned (.tuple #[.pointer none, .int .i64 16]) ∧ Below w.heap.size w w' := by
  have HR := Aside0.mk hr
  have HC := Aside0.mk hc
  have HT := Aside0.mk h
  have b1 : decide (32 < (l.length : Int)) = false := decide_eq_false (by omega)
  have b2 : decide (32 < l.length) = false := decide_eq_false (by omega)
  clear hr hc h
  go_enter Try.func8, Try.ntmps8
  go_wp2_with (go_at_call 37; refine (span_Total.calls K A c l 0 true _ HR.out HC.out HT.out).mono ?_; rintro e w1 ⟨rfl, hb⟩; have HB := Aside0.mk hb; clear hb)
  go_ret2
  exact ⟨rfl, HB.out⟩
set_option maxHeartbeats 8000000 in
set_option maxRecDepth 100000 in
theorem tombolalaw43_alive.own (w : World) : Calls Try.prog 10 #[] w fun e w' => e = .returned (.bool true) ∧ Below w.heap.size w w' := by
  have HB := Aside0.mk (Below.refl w.heap.size w)
  go_enter Try.func10, Try.ntmps10
  go_wp2_with (first
    | ((with_reducible refine gate_dst (N := 7) rfl ?_);(try (refine gate_guard (by rfl) ?_;dsimp only));refine Kd.R_lit (Kd.int .u64) _ 27 ?hg (N := 7) ?hd (xs := ([1, 2] : List Int)) (inner := [.int .u64 1, .int .u64 2]) (ok := fun _ => True) (okp := fun _ => True) ?hr ?hp (fun _ hk => hk) trivial (Below.refl _ _) (Nat.le_refl _) (by simp) ?_;(case hd => rfl);(case hg => rfl);(case hr => first|(go_simp;done)|(go_simp;rfl));(case hp => exact (Reps.one (show Kd.M (Kd.int .u64) _ _ _ 1 [.int .u64 1] from rfl) (Reps.one (show Kd.M (Kd.int .u64) _ _ _ 2 [.int .u64 2] from rfl) (Reps.none _ _))));intro v3 w3 ho1 hb1 hg_ hnew_;clear hg_ hnew_;obtain ⟨A1, c1, ev3, hc3, hC3⟩ := Kd.R_reads ho1;have H1 := Aside0.mk hC3;have I1 := Aside0.mk hc3;subst ev3;have k0 := Aside0.mk (HB.out.trans (hb1.mono HB.out.size)); clear HB hb1 ho1 hc3 hC3; have HB := k0; clear k0)
    | (go_at_call 8; refine (stride_New.own 10 A1 c1 [1, 2] 3 _ H1.out I1.out (by decide) sa_total (by decide)).mono ?_; rintro e w4 ⟨g, v, rfl, hs, hb⟩; have HGE := Aside0.mk (HB.out.size); have k1 := Aside0.mk (HB.out.trans (hb.mono HB.out.size)); have HS := Aside0.mk (show Sd w.heap.size w4 g v [⟨1, 0⟩, ⟨2, 0⟩] from ⟨hs.1, Nat.le_trans HGE.out hs.2.1, Kd.R_lower hs.2.2 HGE.out⟩); clear HB hs hb H1 HGE; have HB := k1; clear k1)
    | ((with_reducible refine gate_dst (N := 12) rfl ?_);(try (refine gate_guard (by rfl) ?_;dsimp only));refine Kd.R_lit (Kd.int .u64) _ 27 ?hg (N := 12) ?hd (xs := ([0] : List Int)) (inner := [.int .u64 0]) (ok := fun _ => True) (okp := fun _ => True) ?hr ?hp (fun _ hk => hk) trivial (Below.refl _ _) (Nat.le_refl _) (by simp) ?_;(case hd => rfl);(case hg => rfl);(case hr => first|(go_simp;done)|(go_simp;rfl));(case hp => exact Reps.one (show Kd.M (Kd.int .u64) _ _ _ 0 [.int .u64 0] from rfl) (Reps.none _ _));intro v3 w3 ho1 hb1 hg_ hnew_;clear hg_ hnew_;obtain ⟨A2, c2, ev3, hc3, hC3⟩ := Kd.R_reads ho1;have H2 := Aside0.mk hC3;have I2 := Aside0.mk hc3;subst ev3;have k0 := Aside0.mk (HB.out.trans (hb1.mono HB.out.size)); have k1 := Aside0.mk (HS.out.below hb1); clear HB HS hb1 ho1 hc3 hC3; have HB := k0; have HS := k1; clear k0 k1)
    | (go_at_call 8; refine (stride_New.idle 10 A2 c2 [0] _ H2.out I2.out (by decide) sa_total0).mono ?_; rintro e w5 ⟨rfl, hb⟩; have k1 := Aside0.mk (HB.out.trans (hb.mono HB.out.size)); have k2 := Aside0.mk (HS.out.below hb); clear HB HS hb H2; have HB := k1; have HS := k2; clear k1 k2)
    | (go_at_call 16; refine (stride_Run.own 20 3 _ HS.out (by decide) (by decide) sa_run).mono ?_; rintro e w6 ⟨vo, rfl, hr, hs, _, hb⟩; obtain ⟨Ao, co, rfl⟩ := Kd.R_slice hr; have k1 := Aside0.mk (HB.out.trans hb); have k2 := Aside0.mk hs; have HR := Aside0.mk (Kd.R_lower hr (Nat.zero_le _)); clear HB HS hb hs hr; have HB := k1; have HS := k2; clear k1 k2)
    | ((with_reducible refine gate_dst (N := 26) rfl ?_);(try (refine gate_guard (by rfl) ?_;dsimp only));refine Kd.R_lit (Kd.int .i64) _ 3 ?hg (N := 26) ?hd (xs := ([0, 1, 1] : List Int)) (inner := [.int .i64 0, .int .i64 1, .int .i64 1]) (ok := fun _ => True) (okp := fun _ => True) ?hr ?hp (fun _ hk => hk) trivial (Below.refl _ _) (Nat.le_refl _) (by simp) ?_;(case hd => rfl);(case hg => rfl);(case hr => first|(go_simp;done)|(go_simp;rfl));(case hp => exact (Reps.one (show Kd.M (Kd.int .i64) _ _ _ 0 [.int .i64 0] from rfl) (Reps.one (show Kd.M (Kd.int .i64) _ _ _ 1 [.int .i64 1] from rfl) (Reps.one (show Kd.M (Kd.int .i64) _ _ _ 1 [.int .i64 1] from rfl) (Reps.none _ _)))));intro v3 w3 ho1 hb1 hg_ hnew_;clear hg_ hnew_;obtain ⟨A5, c5, ev3, hc3, hC3⟩ := Kd.R_reads ho1;have H5 := Aside0.mk hC3;have I5 := Aside0.mk hc3;subst ev3;have k0 := Aside0.mk (HB.out.trans (hb1.mono HB.out.size)); have k1 := Aside0.mk (HS.out.below hb1); have k2 := Aside0.mk (Kd.R_below HR.out hb1); clear HB HS HR hb1 ho1 hc3 hC3; have HB := k0; have HS := k1; have HR := k2; clear k0 k1 k2)
    | (go_at_call 27; refine (tombolaref11_Ints.calls 10 Ao co [0, 1, 1] A5 c5 [0, 1, 1] true _ (Kd.R_reads' HR.out).2.2 (Kd.R_reads' HR.out).2.1 H5.out I5.out sa_ints).mono ?_; rintro e w7 ⟨rfl, hd⟩; have k1 := Aside0.mk (HB.out.trans (hd.below.mono HB.out.size)); have k2 := Aside0.mk (HS.out.below hd.below); clear HB HS hd HR H5; have HB := k1; have HS := k2; clear k1 k2)
    | (go_at_call 20; refine (stride_Turns.own _ HS.out (by decide) (by decide)).mono ?_; rintro e w8 ⟨rfl, hb⟩; have k1 := Aside0.mk (HB.out.trans (hb.mono HB.out.size)); have k2 := Aside0.mk (HS.out.below hb); clear HB HS hb; have HB := k1; have HS := k2; clear k1 k2)
    | (go_at_call 12; refine (stride_Count.own 1 (by decide) _ HS.out).mono ?_; rintro e w8 ⟨rfl, hb⟩; have k1 := Aside0.mk (HB.out.trans (hb.mono HB.out.size)); have k2 := Aside0.mk (HS.out.below hb); clear HB HS hb; have HB := k1; have HS := k2; clear k1 k2)
    | (go_at_call 18; refine (stride_Pass.own 20 [1] [1] 1 (by decide) _ HS.out sa_pass).mono ?_; rintro e w9 ⟨v0, v1, rfl, hp, hq, hb⟩; obtain ⟨A6, c6, rfl⟩ := Kd.R_slice hp; obtain ⟨A7, c7, rfl⟩ := Kd.R_slice hq; have HP := Aside0.mk hp; have HQ := Aside0.mk hq; have k1 := Aside0.mk (HB.out.trans (hb.mono HB.out.size)); clear HB HS hb hp hq; have HB := k1; clear k1)
    | (go_at_call 19; refine (tombolaref04_Int.calls 10 1 [1] [1] _ sa_int).mono ?_; rintro e w10 ⟨v0, v1, rfl, hp, hq, hb⟩; obtain ⟨A8, c8, rfl⟩ := Kd.R_slice hp; obtain ⟨A9, c9, rfl⟩ := Kd.R_slice hq; have HM := Aside0.mk hp; have HN := Aside0.mk hq; have k1 := Aside0.mk (HB.out.trans (hb.mono HB.out.size)); have k2 := Aside0.mk (Kd.R_below HP.out hb); have k3 := Aside0.mk (Kd.R_below HQ.out hb); clear HB HP HQ hb hp hq; have HB := k1; have HP := k2; have HQ := k3; clear k1 k2 k3)
    | (go_at_call 17; refine (tombolaref04_Same.calls 10 A6 c6 [1] A7 c7 [1] A8 c8 [1] A9 c9 [1] true _ (Kd.R_reads' HP.out).2.2 (Kd.R_reads' HP.out).2.1 (Kd.R_reads' HQ.out).2.2 (Kd.R_reads' HQ.out).2.1 (Kd.R_reads' HM.out).2.2 (Kd.R_reads' HM.out).2.1 (Kd.R_reads' HN.out).2.2 (Kd.R_reads' HN.out).2.1 sa_same).mono ?_; rintro e w11 ⟨rfl, hb⟩; have k1 := Aside0.mk (HB.out.trans (hb.mono HB.out.size)); clear HB hb; have HB := k1; clear k1))
  go_ret
  exact ⟨rfl, HB.out⟩
end Go.Proofs.Yteipfcflijdapaa.F
end
section
namespace Go.Proofs.Yteipfcflijdapaa.F
open Go.RowKit Go.Proofs.YteipfcflijdapaaW.PrintWords Go.Proofs.YteipfcflijdapaaW.PrintLast Go.Proofs.YteipfcflijdapaaW.PrintMore
set_option linter.unusedSimpArgs false
set_option linter.unusedVariables false
set_option maxHeartbeats 8000000 in
set_option maxRecDepth 100000 in
theorem mainStrideNobody (a : Int) (w : World) {P : Prop} (_ : P) : Calls Try.prog 4 #[.int .i64 a] w fun e w' => e = .returned (.bool true) ∧ Below w.heap.size w w' := by
  have HB := Aside0.mk (Below.refl w.heap.size w)
  go_enter Try.func4, Try.ntmps4
  go_wp2_with (first
    | (go_at_call 15; refine (stride_Reset.nil _).mono ?_; rintro e w1 ⟨rfl, hb⟩; have k1 := Aside0.mk (HB.out.trans (hb.mono HB.out.size)); clear HB hb; have HB := k1; clear k1)
    | (go_at_call 11; refine (stride_Next.nil _).mono ?_; rintro e w2 ⟨rfl, hb⟩; have k1 := Aside0.mk (HB.out.trans (hb.mono HB.out.size)); clear HB hb; have HB := k1; clear k1)
    | (go_at_call 16; refine (stride_Run.nil a _).mono ?_; rintro e w3 ⟨rfl, hb⟩; have k1 := Aside0.mk (HB.out.trans (hb.mono HB.out.size)); clear HB hb; have HB := k1; clear k1)
    | (go_at_call 20; refine (stride_Turns.nil _).mono ?_; rintro e w8 ⟨rfl, hb⟩; have k1 := Aside0.mk (HB.out.trans (hb.mono HB.out.size)); clear HB hb; have HB := k1; clear k1)
    | (go_at_call 12; refine (stride_Count.nil a _).mono ?_; rintro e w8 ⟨rfl, hb⟩; have k1 := Aside0.mk (HB.out.trans (hb.mono HB.out.size)); clear HB hb; have HB := k1; clear k1)
    | (go_at_call 18; refine (stride_Pass.nil 20 [] [1] a _ sa_pass0).mono ?_; rintro e w9 ⟨v0, v1, rfl, hp, hq, hb⟩; obtain ⟨A6, c6, rfl⟩ := Kd.R_slice hp; obtain ⟨A7, c7, rfl⟩ := Kd.R_slice hq; have HP := Aside0.mk hp; have HQ := Aside0.mk hq; clear hp hq; have k1 := Aside0.mk (HB.out.trans (hb.mono HB.out.size)); clear HB hb; have HB := k1; clear k1)
    | (go_at_call 19; refine (tombolaref04_Int.calls 10 0 [] [1] _ sa_int0).mono ?_; rintro e w10 ⟨v0, v1, rfl, hp, hq, hb⟩; obtain ⟨A8, c8, rfl⟩ := Kd.R_slice hp; obtain ⟨A9, c9, rfl⟩ := Kd.R_slice hq; have HM := Aside0.mk hp; have HN := Aside0.mk hq; have k2 := Aside0.mk (Kd.R_below HP.out hb); have k3 := Aside0.mk (Kd.R_below HQ.out hb); clear HP HQ hp hq; have k1 := Aside0.mk (HB.out.trans (hb.mono HB.out.size)); clear HB hb; have HB := k1; clear k1; have HP := k2; have HQ := k3; clear k2 k3)
    | (go_at_call 17; refine (tombolaref04_Same.calls 10 A6 c6 [] A7 c7 [1] A8 c8 [] A9 c9 [1] true _ (Kd.R_reads' HP.out).2.2 (Kd.R_reads' HP.out).2.1 (Kd.R_reads' HQ.out).2.2 (Kd.R_reads' HQ.out).2.1 (Kd.R_reads' HM.out).2.2 (Kd.R_reads' HM.out).2.1 (Kd.R_reads' HN.out).2.2 (Kd.R_reads' HN.out).2.1 sa_same0).mono ?_; rintro e w11 ⟨rfl, hb⟩; have k1 := Aside0.mk (HB.out.trans (hb.mono HB.out.size)); clear HB hb; have HB := k1; clear k1)
    | (go_at_call 10; refine (tombolalaw43_alive.own _).mono ?_; rintro e w12 ⟨rfl, hb⟩; have k1 := Aside0.mk (HB.out.trans (hb.mono HB.out.size)); clear HB hb; have HB := k1; clear k1))
  go_ret
  exact ⟨rfl, HB.out⟩
end Go.Proofs.Yteipfcflijdapaa.F
end
section
namespace Go.Proofs.YteipfcflijdapaaW.PrintWords
open Go.ChangeShapes Go.WideShapes
end Go.Proofs.YteipfcflijdapaaW.PrintWords
end
