-- Cut for this claim by a program (wip/prune.py) out of the texts that its bench laid or wrote
import Derived.Test.YteipfcflijdapaaStride
import Derived.Test.YteipfcflijdapaaFStrideA
import Derived.Test.YteipfcflijdapaaStrideNx
section
namespace Go.Proofs.Yteipfcflijdapaa.F
open Go.RowKit Go.Proofs.YteipfcflijdapaaW.PrintWords Go.Proofs.YteipfcflijdapaaW.PrintLast Go.Proofs.YteipfcflijdapaaW.PrintMore
set_option linter.unusedSimpArgs false
set_option linter.unusedVariables false
set_option maxHeartbeats 4000000 in
set_option maxRecDepth 100000 in
theorem stride_at.nil (a : Int) (w : World) : Calls Try.prog 43 #[.pointer none, .int .i64 a] w fun e w' => e = .returned (.agg #[.int .u64 0, .int .i64 0]) ∧ Below w.heap.size w w' := by
  have hu2 := Try.underlying73
  go_enter Try.func43, Try.ntmps43
  have HK := Aside0.mk (blk_new w (.cells #[.int .u64 0, .int .i64 0] 73))
  have HB := Aside0.mk (below_alloc (Below.refl w.heap.size w) (.cells #[.int .u64 0, .int .i64 0] 73))
  go_wp2
  refine bodyPost_ret (results_cell_row rfl _ _ w.heap.size 73 #[.int .u64 0, .int .i64 0] (0, 0) _ rfl (by (with_reducible repeat (first|refine blk_drewN ?_ _|refine blk_drew ?_));exact HK.out) Try.underlying73 rfl (by kernel_rfl)) rfl ?_
  exact ⟨rfl, by repeat (first|(with_reducible first|exact HB.out|apply pw_below_drewN|apply below_drew1|refine below_set ?_ (Nat.le_refl _))|exact HB.out)⟩
set_option maxHeartbeats 4000000 in
set_option maxRecDepth 100000 in
theorem stride_at.own {base g : Nat} {v : Value} {cs : List S73} (i : Nat) (hi : i < cs.length) (w : World) (hS : Sd base w g v cs) : Calls Try.prog 43 #[.pointer (some ⟨g, 0, none⟩), .int .i64 (i : Int)] w fun e w' => e = .returned (.agg #[.int .u64 (rd_T73 cs (i : Int)).f0, .int .i64 (rd_T73 cs (i : Int)).f1]) ∧ Below w.heap.size w w' := by
  have hu2 := Try.underlying73
  have hu := Try.underlying71
  have hS2 := hS.below (below_alloc (Below.refl w.heap.size w) (.cells #[.int .u64 0, .int .i64 0] 73))
  obtain ⟨ad, c, rfl, hx0, hx1, _, _⟩ := hS2.elem i hi
  have hg := (blk_cell hS2.1 0).trans rfl
  have d1 : decide ((i : Int) < 0) = false := decide_eq_false (by omega)
  have d2 : decide (0 ≤ (i : Int)) = true := decide_eq_true (by omega)
  have d3 : decide ((i : Int) < (cs.length : Int)) = true := decide_eq_true (by omega)
  have d4 : decide (i < cs.length) = true := decide_eq_true hi
  have d5 : decide ((cs.length : Int) ≤ (i : Int)) = false := decide_eq_false (by omega)
  have d6 : decide (cs.length ≤ i) = false := decide_eq_false (by omega)
  generalize rd_T73 cs (i : Int) = x at hx0 hx1 ⊢
  clear hS hS2
  go_enter Try.func43, Try.ntmps43
  go_wp2
  refine bodyPost_ret (results_cell_row rfl _ _ w.heap.size 73 #[.int .u64 x.f0, .int .i64 x.f1] (0, 0) _ rfl (blk_new w _) Try.underlying73 rfl (by kernel_rfl)) rfl ?_
  exact ⟨rfl, below_alloc (Below.refl w.heap.size w) _⟩
set_option maxHeartbeats 4000000 in
set_option maxRecDepth 100000 in
theorem stride_Count.nil (a : Int) (w : World) : Calls Try.prog 12 #[.pointer none, .int .i64 a] w fun e w' => e = .returned (.int .i64 0) ∧ Below w.heap.size w w' := by
  have hfd : ∀ (w_ : World) (x0_ x1_ : Value), (Instr.field 73 (.agg #[x0_, x1_]) 1).run Try.prog w_ = .ok (x1_) w_ := fun _ _ _ => by kernel_rfl
  go_enter Try.func12, Try.ntmps12
  go_wp2_with (go_at_call 43; refine (stride_at.nil a _).mono ?_; rintro e w1 ⟨rfl, hb⟩; have HB := Aside0.mk hb; clear hb)
  go_ret
  exact ⟨rfl, HB.out⟩
set_option maxHeartbeats 4000000 in
set_option maxRecDepth 100000 in
theorem stride_Count.own {base g : Nat} {v : Value} {cs : List S73} (i : Nat) (hi : i < cs.length) (w : World) (hS : Sd base w g v cs) : Calls Try.prog 12 #[.pointer (some ⟨g, 0, none⟩), .int .i64 (i : Int)] w fun e w' => e = .returned (.int .i64 (rd_T73 cs (i : Int)).f1) ∧ Below w.heap.size w w' := by
  have hfd : ∀ (w_ : World) (x0_ x1_ : Value), (Instr.field 73 (.agg #[x0_, x1_]) 1).run Try.prog w_ = .ok (x1_) w_ := fun _ _ _ => by kernel_rfl
  go_enter Try.func12, Try.ntmps12
  go_wp2_with (go_at_call 43; refine (stride_at.own i hi _ hS).mono ?_; rintro e w1 ⟨rfl, hb⟩; have HB := Aside0.mk hb; clear hb)
  go_ret
  exact ⟨rfl, HB.out⟩
set_option maxHeartbeats 4000000 in
set_option maxRecDepth 100000 in
theorem stride_Pass.nil (kf : Nat) (r1 r2 : List Int) (a : Int) (w : World) (hp : stride_client_pass.f kf 0 0 = some (r1, r2)) : Calls Try.prog 18 #[.pointer none, .int .i64 a] w fun e w' => ∃ v0 v1, e = .returned (.agg #[v0, v1]) ∧ Kd.R (Kd.int .u32) 114 w' 0 (fun _ => True) v0 r1 ∧ Kd.R (Kd.int .u32) 114 w' 0 (fun _ => True) v1 r2 ∧ Below w.heap.size w w' := by
  have hu46 := Try.underlying46
  have HP := Aside0.mk hp
  clear hp
  go_enter Try.func18, Try.ntmps18
  go_wp2_with (first
    | (go_at_call 43; refine (stride_at.nil a _).mono ?_; rintro e w1 ⟨rfl, hb⟩; have HB := Aside0.mk hb; clear hb)
    | (go_at_call 42; refine (stride_client_pass.calls kf _ _ r1 r2 _ HP.out).mono ?_; rintro e w2 ⟨v0, v1, rfl, hR0, hR1, hb2⟩; obtain ⟨A0, c0, rfl⟩ := Kd.R_slice hR0; obtain ⟨A1, c1, rfl⟩ := Kd.R_slice hR1; have HB2 := Aside0.mk hb2; have HR0 := Aside0.mk hR0; have HR1 := Aside0.mk hR1; have hbk := blk_below (blk_below (blk_new w (.cells #[.slice none 0 0, .slice none 0 0] 46)) HB.out) HB2.out; have b1 := blk_put (cs' := #[.slice A0 r1.length c0, .slice none 0 0]) hbk 0 (.slice A0 r1.length c0) rfl; have k0 := (blk_cell hbk 0).trans rfl; have f0 := blk_frozen hbk 0; have k1 := (blk_cell b1 1).trans rfl; have f1 := blk_frozen b1 1; have HBK := Aside0.mk hbk; have HB1 := Aside0.mk b1; clear hb2 hR0 hR1 hbk b1))
  have n0 := Kd.R_mono (Kd.R_lower HR0.out (Nat.zero_le _)) (ok' := fun _ => True) (fun _ _ => trivial)
  have n1 := Kd.R_mono (Kd.R_lower HR1.out (Nat.zero_le _)) (ok' := fun _ => True) (fun _ _ => trivial)
  have hbk := HBK.out
  have b1 := HB1.out
  have b2 := blk_put (cs' := #[.slice A0 r1.length c0, .slice A1 r2.length c1]) b1 1 (.slice A1 r2.length c1) rfl
  refine bodyPost_ret (results_cell_row rfl _ _ w.heap.size 46 #[.slice A0 r1.length c0, .slice A1 r2.length c1] (0, 0) _ rfl b2 Try.underlying46 rfl (by kernel_rfl)) rfl ?_
  exact ⟨.slice A0 r1.length c0, .slice A1 r2.length c1, rfl, Kd.R_set (Kd.R_set n0 hbk (by decide) 0 (.slice A0 r1.length c0)) b1 (by decide) 1 (.slice A1 r2.length c1), Kd.R_set (Kd.R_set n1 hbk (by decide) 0 (.slice A0 r1.length c0)) b1 (by decide) 1 (.slice A1 r2.length c1), below_set (below_set (below_step (below_step (below_alloc (Below.refl w.heap.size w) _) HB.out) HB2.out) (Nat.le_refl _)) (Nat.le_refl _)⟩
set_option maxHeartbeats 4000000 in
set_option maxRecDepth 100000 in
theorem stride_Pass.own (kf : Nat) (r1 r2 : List Int) {base g : Nat} {v : Value} {cs : List S73} (i : Nat) (hi : i < cs.length) (w : World) (hS : Sd base w g v cs) (hp : stride_client_pass.f kf (rd_T73 cs (i : Int)).f0 (rd_T73 cs (i : Int)).f1 = some (r1, r2)) : Calls Try.prog 18 #[.pointer (some ⟨g, 0, none⟩), .int .i64 (i : Int)] w fun e w' => ∃ v0 v1, e = .returned (.agg #[v0, v1]) ∧ Kd.R (Kd.int .u32) 114 w' 0 (fun _ => True) v0 r1 ∧ Kd.R (Kd.int .u32) 114 w' 0 (fun _ => True) v1 r2 ∧ Below w.heap.size w w' := by
  have hu46 := Try.underlying46
  have HP := Aside0.mk hp
  clear hp
  have HS2 := Aside0.mk (hS.below (below_alloc (Below.refl w.heap.size w) (.cells #[.slice none 0 0, .slice none 0 0] 46)))
  clear hS
  go_enter Try.func18, Try.ntmps18
  go_wp2_with (first
    | (go_at_call 43; refine (stride_at.own i hi _ HS2.out).mono ?_; rintro e w1 ⟨rfl, hb⟩; have HB := Aside0.mk hb; clear hb)
    | (go_at_call 42; refine (stride_client_pass.calls kf _ _ r1 r2 _ HP.out).mono ?_; rintro e w2 ⟨v0, v1, rfl, hR0, hR1, hb2⟩; obtain ⟨A0, c0, rfl⟩ := Kd.R_slice hR0; obtain ⟨A1, c1, rfl⟩ := Kd.R_slice hR1; have HB2 := Aside0.mk hb2; have HR0 := Aside0.mk hR0; have HR1 := Aside0.mk hR1; have hbk := blk_below (blk_below (blk_new w (.cells #[.slice none 0 0, .slice none 0 0] 46)) HB.out) HB2.out; have b1 := blk_put (cs' := #[.slice A0 r1.length c0, .slice none 0 0]) hbk 0 (.slice A0 r1.length c0) rfl; have k0 := (blk_cell hbk 0).trans rfl; have f0 := blk_frozen hbk 0; have k1 := (blk_cell b1 1).trans rfl; have f1 := blk_frozen b1 1; have HBK := Aside0.mk hbk; have HB1 := Aside0.mk b1; clear hb2 hR0 hR1 hbk b1))
  have n0 := Kd.R_mono (Kd.R_lower HR0.out (Nat.zero_le _)) (ok' := fun _ => True) (fun _ _ => trivial)
  have n1 := Kd.R_mono (Kd.R_lower HR1.out (Nat.zero_le _)) (ok' := fun _ => True) (fun _ _ => trivial)
  have hbk := HBK.out
  have b1 := HB1.out
  have b2 := blk_put (cs' := #[.slice A0 r1.length c0, .slice A1 r2.length c1]) b1 1 (.slice A1 r2.length c1) rfl
  refine bodyPost_ret (results_cell_row rfl _ _ w.heap.size 46 #[.slice A0 r1.length c0, .slice A1 r2.length c1] (0, 0) _ rfl b2 Try.underlying46 rfl (by kernel_rfl)) rfl ?_
  exact ⟨.slice A0 r1.length c0, .slice A1 r2.length c1, rfl, Kd.R_set (Kd.R_set n0 hbk (by decide) 0 (.slice A0 r1.length c0)) b1 (by decide) 1 (.slice A1 r2.length c1), Kd.R_set (Kd.R_set n1 hbk (by decide) 0 (.slice A0 r1.length c0)) b1 (by decide) 1 (.slice A1 r2.length c1), below_set (below_set (below_step (below_step (below_alloc (Below.refl w.heap.size w) _) HB.out) HB2.out) (Nat.le_refl _)) (Nat.le_refl _)⟩
end Go.Proofs.Yteipfcflijdapaa.F
end
section
namespace Go.Proofs.Yteipfcflijdapaa.F
open Go.RowKit Go.Proofs.YteipfcflijdapaaW.PrintWords Go.Proofs.YteipfcflijdapaaW.PrintLast Go.Proofs.YteipfcflijdapaaW.PrintMore
set_option linter.unusedSimpArgs false
set_option linter.unusedVariables false
set_option maxHeartbeats 4000000 in
set_option maxRecDepth 100000 in
theorem stride_Next.nil (w : World) : Calls Try.prog 11 #[.pointer none] w fun e w' => e = .returned (.int .i64 (-1)) ∧ Below w.heap.size w w' := by
  have HB := Aside0.mk (Below.refl w.heap.size w)
  go_enter Try.func11, Try.ntmps11
  go_wp2
  go_ret
  exact ⟨rfl, by repeat (first|exact HB.out|apply pw_below_drewN|apply below_drew1)⟩
set_option maxHeartbeats 4000000 in
set_option maxRecDepth 100000 in
theorem stride_Turns.nil (w : World) : Calls Try.prog 20 #[.pointer none] w fun e w' => e = .returned (.int .i64 0) ∧ Below w.heap.size w w' := by
  have HB := Aside0.mk (Below.refl w.heap.size w)
  go_enter Try.func20, Try.ntmps20
  go_wp2
  go_ret
  exact ⟨rfl, by repeat (first|exact HB.out|apply pw_below_drewN|apply below_drew1)⟩
set_option maxHeartbeats 4000000 in
set_option maxRecDepth 100000 in
theorem stride_Run.nil (n : Int) (w : World) : Calls Try.prog 16 #[.pointer none, .int .i64 n] w fun e w' => e = .returned (.slice none 0 0) ∧ Below w.heap.size w w' := by
  have HB := Aside0.mk (Below.refl w.heap.size w)
  go_enter Try.func16, Try.ntmps16
  go_wp2
  go_ret
  exact ⟨rfl, by repeat (first|exact HB.out|apply pw_below_drewN|apply below_drew1)⟩
set_option maxHeartbeats 4000000 in
set_option maxRecDepth 100000 in
theorem stride_Reset.nil (w : World) : Calls Try.prog 15 #[.pointer none] w fun e w' => e = .returned (.tuple #[]) ∧ Below w.heap.size w w' := by
  have HB := Aside0.mk (Below.refl w.heap.size w)
  go_enter Try.func15, Try.ntmps15
  go_wp2
  refine bodyPost_ret (v := .tuple #[]) ?hres rfl ?_
  case hres => exact results_list (rs := []) (vs := []) rfl (by decide) (by first | exact .nil | constructor | trivial)
  exact ⟨rfl, by repeat (first|exact HB.out|apply pw_below_drewN|apply below_drew1)⟩
def stepR (kf : Nat) (cs : List S73) : Option (Int × List S73) := (selS kf cs cs.length).bind fun b =>
  if 0 ≤ b ∧ 0 ≤ (rd_T73 cs b).f1 ∧ (rd_T73 cs b).f1 < 1000000 then some (b, cs.set b.toNat ⟨(rd_T73 cs b).f0, (rd_T73 cs b).f1 + 1⟩) else none
def runS (kf : Nat) (cs : List S73) : Nat → Option (List Int × List S73)
 | 0 => some ([], cs)
 | n + 1 => (runS kf cs n).bind fun p => (stepR kf p.2).map fun q => (p.1 ++ [q.1], q.2)
theorem stride_Next.turn (kf : Nat) {base g : Nat} {v : Value} {cs cs' : List S73} {b : Int} (w : World) (hS : Sd base w g v cs) (hl : cs.length ≤ 32) (h : stepR kf cs = some (b, cs')) :
    Calls Try.prog 11 #[.pointer (some ⟨g, 0, none⟩)] w fun e w' => e = .returned (.int .i64 b) ∧ Sd base w' g v cs' ∧ KeepBut w w' g v.ownBlock ∧ Below base w w' := by
  obtain ⟨b1, hb, h⟩ := Option.bind_eq_some_iff.1 h
  split at h
  · rename_i hc
    simp only [Option.some.injEq, Prod.mk.injEq] at h
    obtain ⟨rfl, rfl⟩ := h
    obtain ⟨i, rfl⟩ := Int.eq_ofNat_of_zero_le hc.1
    rw [Int.toNat_natCast]
    exact stride_Next.own kf i w hS hl hb hc.2
  · cases h
theorem stepR_len {kf : Nat} {cs cs' : List S73} {b : Int} (h : stepR kf cs = some (b, cs')) : cs'.length = cs.length := by
  obtain ⟨b1, hb, h⟩ := Option.bind_eq_some_iff.1 h
  split at h
  · simp only [Option.some.injEq, Prod.mk.injEq] at h
    obtain ⟨_, rfl⟩ := h
    exact List.length_set ..
  · cases h
theorem runS_le {kf : Nat} {cs : List S73} {j : Nat} : ∀ {n : Nat} {r : List Int × List S73}, runS kf cs n = some r → j ≤ n → ∃ q, runS kf cs j = some q
  | 0, r, h, hj => by obtain rfl : j = 0 := by omega
                      exact ⟨r, h⟩
  | n + 1, r, h, hj => by
    rcases Nat.lt_or_ge j (n + 1) with hl | hl
    · obtain ⟨b, hb, _⟩ := Option.bind_eq_some_iff.1 (show (runS kf cs n).bind _ = some r from h)
      exact runS_le hb (by omega)
    · obtain rfl : j = n + 1 := by omega
      exact ⟨r, h⟩
theorem runS_len {kf : Nat} {cs : List S73} : ∀ {n : Nat} {o : List Int} {cs' : List S73}, runS kf cs n = some (o, cs') → o.length = n ∧ cs'.length = cs.length
  | 0, o, cs', h => by cases h; exact ⟨rfl, rfl⟩
  | n + 1, o, cs', h => by
    obtain ⟨⟨o1, c1⟩, hb, h2⟩ := Option.bind_eq_some_iff.1 (show (runS kf cs n).bind _ = some (o, cs') from h)
    obtain ⟨⟨b, c2⟩, h3, h4⟩ := Option.map_eq_some_iff.1 h2
    cases h4
    have := runS_len hb
    exact ⟨by simp [this.1], (stepR_len h3).trans this.2⟩
end Go.Proofs.Yteipfcflijdapaa.F
end
section
namespace Go.Proofs.Yteipfcflijdapaa.F
open Go.RowKit Go.Proofs.YteipfcflijdapaaW.PrintWords Go.Proofs.YteipfcflijdapaaW.PrintLast Go.Proofs.YteipfcflijdapaaW.PrintMore
set_option linter.unusedSimpArgs false
set_option linter.unusedVariables false
def sumC (cs : List S73) : Nat → Int
 | 0 => 0
 | j + 1 => sumC cs j + (rd_T73 cs (j : Int)).f1
set_option maxHeartbeats 4000000 in
set_option maxRecDepth 100000 in
theorem stride_Turns.own {base g : Nat} {v : Value} {cs : List S73} (w : World) (hS : Sd base w g v cs) (hl : cs.length ≤ 32) (hs : ∀ j, j ≤ cs.length → 0 ≤ sumC cs j ∧ sumC cs j < 1000000000) :
    Calls Try.prog 20 #[.pointer (some ⟨g, 0, none⟩)] w fun e w' => e = .returned (.int .i64 (sumC cs cs.length)) ∧ Below w.heap.size w w' := by
  have hu := Try.underlying71
  have hu2 := Try.underlying73
  obtain ⟨A, c, rfl, hC⟩ := hS.at
  have HC := Aside0.mk hC
  have HS := Aside0.mk hS
  have HL := Aside0.mk hl
  have HSUM := Aside0.mk hs
  have g0 := (blk_cell hS.1 0).trans rfl
  clear hC hS hl hs
  go_enter Try.func20, Try.ntmps20
  go_wp2
  go_loopg [3, 13] (cs.length + 1) (fun kq v3 v13 W => ∃ (j : Nat), j ≤ cs.length ∧ cs.length - j < kq ∧ v13 = .int .i64 (j : Int) ∧ v3 = .int .i64 (sumC cs j) ∧ Aside0 (Below w.heap.size w W))
  case atStart => exact ⟨0, Nat.zero_le _, by omega, rfl, rfl, ⟨by repeat (first|exact Below.refl _ _|apply pw_below_drewN|apply below_drew1)⟩⟩
  case round =>
    obtain ⟨j, hj0, hj1, rfl, rfl, HW⟩ := hrel
    cases gk with
    | zero => exact absurd hj1 (by omega)
    | succ gk =>
      by_cases hlt : j < cs.length
      · have c1 : decide ((j : Int) < (cs.length : Int)) = true := decide_eq_true (by omega)
        have c2 : decide (j < cs.length) = true := decide_eq_true hlt
        have c3 : decide (0 ≤ (j : Int)) = true := decide_eq_true (by omega)
        obtain ⟨ad, rfl, hx0, hx1⟩ := at_T73 (Kd.C_below HC.out HW.out) (j : Int) (by omega) (by omega)
        rw [Int.toNat_natCast] at hx0 hx1
        have hsum := HSUM.out (j + 1) hlt
        have hse : sumC cs (j + 1) = sumC cs j + (rd_T73 cs (j : Int)).f1 := rfl
        have HSE := Aside0.mk hse
        have HSL := Aside0.mk hsum
        rw [hse] at hsum
        generalize rd_T73 cs (j : Int) = x at hx0 hx1 hsum HSE
        generalize sumC cs j = s0 at hsum HSE ⊢
        have hw1 : wrap64 (s0 + x.f1) = s0 + x.f1 := by unfold wrap64; omega
        have hw2 : IntKind.i64.wrap (s0 + x.f1) = s0 + x.f1 := (i64_w _).trans hw1
        have HWR : Aside0 (wrap64 ((j : Int) + 1) = ((j + 1 : Nat) : Int)) := ⟨by clear HSE hw1 hw2 hsum; have := HL.out; unfold wrap64; omega⟩
        have hw3 := HWR.out
        have hw4 : IntKind.i64.wrap ((j : Int) + 1) = ((j + 1 : Nat) : Int) := (i64_w _).trans hw3
        have HLT := Aside0.mk hlt
        have HJ1 := Aside0.mk hj1
        have HBW := Aside0.mk (below_alloc HW.out (.cells #[.int .u64 x.f0, .int .i64 x.f1] 73))
        clear hsum hse hj1
        go_wp2
        go_roundg gk
        case measure => have := HJ1.out; have := HLT.out; omega
        case rel => exact ⟨j + 1, HLT.out, by have := HJ1.out; have := HLT.out; omega, by first | rfl | rw [HWR.out], by rw [HSE.out], ⟨by repeat (first|exact HBW.out|apply pw_below_drewN|apply below_drew1)⟩⟩
      · obtain rfl : j = cs.length := by omega
        have c1 : decide ((cs.length : Int) < (cs.length : Int)) = false := decide_eq_false (by omega)
        go_wp2
        go_ret
        exact ⟨rfl, HW.out⟩
end Go.Proofs.Yteipfcflijdapaa.F
end
