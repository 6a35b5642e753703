-- Cut for this claim by a program (wip/prune.py) out of the texts that its bench laid or wrote
import Derived.Test.YteipfcflijdapaaStride
import Derived.Test.YteipfcflijdapaaFRatioA
namespace Go.Proofs.Yteipfcflijdapaa.F
open Go.RowKit Go.Proofs.YteipfcflijdapaaW.PrintWords Go.Proofs.YteipfcflijdapaaW.PrintLast Go.Proofs.YteipfcflijdapaaW.PrintMore
set_option linter.unusedSimpArgs false
set_option linter.unusedVariables false
def lessS (K : Nat) (c b : S73) : Option Bool := (stride_client_pass.f K c.f0 c.f1).bind fun p => (stride_client_pass.f K b.f0 b.f1).bind fun q => (ratio_Cmp.f K p.1 p.2 q.1 q.2).map fun r => decide (r < 0)
def stepS (K : Nat) (cs : List S73) (j : Nat) (b : Int) : Option Int :=
  if 0 < (rd_T73 cs (j : Int)).f0 then (if b < 0 then some (j : Int) else (lessS K (rd_T73 cs (j : Int)) (rd_T73 cs b)).map fun t => if t then (j : Int) else b) else some b
def selS (K : Nat) (cs : List S73) : Nat → Option Int
 | 0 => some (-1)
 | j + 1 => (selS K cs j).bind (stepS K cs j)
theorem selS_le {K : Nat} {cs : List S73} {j : Nat} : ∀ {n : Nat} {r : Int}, selS K cs n = some r → j ≤ n → ∃ b, selS K cs j = some b
  | 0, r, h, hj => by obtain rfl : j = 0 := by omega
                      exact ⟨r, h⟩
  | n + 1, r, h, hj => by
    rcases Nat.lt_or_ge j (n + 1) with hl | hl
    · obtain ⟨b, hb, _⟩ := Option.bind_eq_some_iff.1 (show (selS K cs n).bind (stepS K cs n) = some r from h)
      exact selS_le hb (by omega)
    · obtain rfl : j = n + 1 := by omega
      exact ⟨r, h⟩
theorem selS_lt {K : Nat} {cs : List S73} : ∀ {n : Nat} {b : Int}, selS K cs n = some b → -1 ≤ b ∧ b < (n : Int)
  | 0, b, h => by cases h; omega
  | n + 1, b, h => by
    obtain ⟨b0, hb, hs⟩ := Option.bind_eq_some_iff.1 (show (selS K cs n).bind (stepS K cs n) = some b from h)
    have := selS_lt hb
    unfold stepS at hs
    split at hs
    · split at hs
      · cases hs; omega
      · obtain ⟨t, _, ht⟩ := Option.map_eq_some_iff.1 hs
        cases t <;> simp at ht <;> omega
    · cases hs; omega
set_option maxHeartbeats 4000000 in
set_option maxRecDepth 100000 in
theorem stride_Next.own (kf : Nat) {base g : Nat} {v : Value} {cs : List S73} (b : Nat) (w : World) (hS : Sd base w g v cs) (hl : cs.length ≤ 32) (h : selS kf cs cs.length = some (b : Int)) (hov : 0 ≤ (rd_T73 cs (b : Int)).f1 ∧ (rd_T73 cs (b : Int)).f1 < 1000000) :
    Calls Try.prog 11 #[.pointer (some ⟨g, 0, none⟩)] w fun e w' => e = .returned (.int .i64 (b : Int)) ∧ Sd base w' g v (cs.set b ⟨(rd_T73 cs (b : Int)).f0, (rd_T73 cs (b : Int)).f1 + 1⟩) ∧ KeepBut w w' g v.ownBlock ∧ Below base w w' := by
  have hu := Try.underlying71
  have hu2 := Try.underlying73
  obtain ⟨A, c, rfl, hC⟩ := hS.at
  have HC := Aside0.mk hC
  have HS := Aside0.mk hS
  have H := Aside0.mk h
  have HL := Aside0.mk hl
  have HOV := Aside0.mk hov
  have g0 := (blk_cell hS.1 0).trans rfl
  clear hC hS h hl hov
  go_enter Try.func11, Try.ntmps11
  go_wp2
  go_loopg [3, 13] (cs.length + 1) (fun kq v3 v13 W => ∃ (j : Nat) (b0 : Int), j ≤ cs.length ∧ cs.length - j < kq ∧ v13 = .int .i64 (j : Int) ∧ v3 = .int .i64 b0 ∧ Aside0 (selS kf cs j = some b0) ∧ Aside0 (Below w.heap.size w W))
  case atStart => exact ⟨0, -1, Nat.zero_le _, by omega, rfl, rfl, ⟨rfl⟩, ⟨by repeat (first|exact Below.refl _ _|apply pw_below_drewN|apply below_drew1)⟩⟩
  case round =>
    obtain ⟨j, b0, hj0, hj1, rfl, rfl, HB0, HW⟩ := hrel
    cases gk with
    | zero => exact absurd hj1 (by omega)
    | succ gk =>
      by_cases hlt : j < cs.length
      · have c1 : decide ((j : Int) < (cs.length : Int)) = true := decide_eq_true (by omega)
        have c2 : decide (j < cs.length) = true := decide_eq_true hlt
        have c3 : decide (0 ≤ (j : Int)) = true := decide_eq_true (by omega)
        obtain ⟨ad, rfl, hx0, hx1⟩ := at_T73 (Kd.C_below HC.out HW.out) (j : Int) (by omega) (by omega)
        rw [Int.toNat_natCast] at hx0 hx1
        obtain ⟨b1, hb1⟩ := selS_le H.out (show j + 1 ≤ cs.length from hlt)
        have hst : stepS kf cs j b0 = some b1 := by
          have := hb1
          rw [show selS kf cs (j + 1) = (selS kf cs j).bind (stepS kf cs j) from rfl, HB0.out] at this
          exact this
        unfold stepS at hst
        generalize hE : rd_T73 cs (j : Int) = x at hx0 hx1 hst
        have hk5 := blk_new wr (.cells #[.int .u64 x.f0, .int .i64 x.f1] 73)
        have hbw := below_alloc HW.out (.cells #[.int .u64 x.f0, .int .i64 x.f1] 73)
        have HX := Aside0.mk hE
        have HB1 := Aside0.mk hb1
        have HLT := Aside0.mk hlt
        have HJ1 := Aside0.mk hj1
        have HWR : Aside0 (wrap64 ((j : Int) + 1) = ((j + 1 : Nat) : Int)) := ⟨by clear hE hst; have := HL.out; unfold wrap64; omega⟩
        clear hE hb1 hj1
        by_cases z0 : 0 < x.f0
        · rw [if_pos z0] at hst
          by_cases z1 : b0 < 0
          · rw [if_pos z1] at hst
            cases hst
            have d0 : decide (0 < x.f0) = true := decide_eq_true z0
            have d1 : decide (b0 < 0) = true := decide_eq_true z1
            clear z0 z1
            go_wp2
            generalize wr.alloc (.cells #[.int .u64 x.f0, .int .i64 x.f1] 73) = wa at hk5 hbw ⊢
            generalize wr.heap.size = g5 at hk5 ⊢
            have HK5 := Aside0.mk hk5
            have HBW := Aside0.mk hbw
            clear hk5 hbw
            refine start_ (n := 21) (S := fun w' => Below wa.heap.size wa w') (ds := []) #[false, false, false, false, false, false, false, false, false, false, false, false, false, false, false, false, false, false, false, false, false] (by kernel_rfl) rfl rfl (below_drew (Below.refl _ _)) (fun hHeld => ?_)
            refine pure_ (i := 0) (N := some 18) (v := ?_) (a' := ?_) #[true, false, false, false, false, false, false, false, false, false, false, false, false, false, false, false, false, false, false, false, false] rfl rfl (by kernel_rfl) (fun _ _ _ h => h) (Or.inl ⟨by rfl, ?_⟩) ?_ ?_
            rotate_left
            · intro w'
              go_simp
              with_reducible rfl
            rotate_left
            · simp only [Act.put, List.setIfInBounds_toArray, List.set_cons_zero, List.set_cons_succ, i64_w, i32_w]
              rfl
            refine take_ (i := 1) (N := some 19) (v := ?_) (a' := ?_) #[true, true, false, false, false, false, false, false, false, false, false, false, false, false, false, false, false, false, false, false, false] rfl rfl (by kernel_rfl) (fun _ _ _ h => h) (Or.inl ⟨by rfl, ?_⟩) hHeld ?_ ?_
            rotate_left
            · intro w' hw'
              have x1 := (blk_cell (blk_below HK5.out hw') 0).trans rfl
              go_simp
              with_reducible rfl
            rotate_left
            · simp only [Act.put, List.setIfInBounds_toArray, List.set_cons_zero, List.set_cons_succ, i64_w, i32_w]
              rfl
            refine pure_ (i := 2) (N := some 20) (v := ?_) (a' := ?_) #[true, true, true, false, false, false, false, false, false, false, false, false, false, false, false, false, false, false, false, false, false] rfl rfl (by kernel_rfl) (fun _ _ _ h => h) (Or.inl ⟨by rfl, ?_⟩) ?_ ?_
            rotate_left
            · intro w'
              go_simp
              with_reducible rfl
            rotate_left
            · simp only [Act.put, List.setIfInBounds_toArray, List.set_cons_zero, List.set_cons_succ, i64_w, i32_w]
              rfl
            refine pure_ (i := 3) (N := some 21) (v := ?_) (a' := ?_) #[true, true, true, true, false, false, false, false, false, false, false, false, false, false, false, false, false, false, false, false, false] rfl rfl (by kernel_rfl) (fun _ _ _ h => h) (Or.inl ⟨by rfl, ?_⟩) ?_ ?_
            rotate_left
            · intro w'
              go_simp
              with_reducible rfl
            rotate_left
            · simp only [Act.put, List.setIfInBounds_toArray, List.set_cons_zero, List.set_cons_succ, i64_w, i32_w]
              rfl
            refine pure_ (i := 4) (N := some 22) (v := ?_) (a' := ?_) #[true, true, true, true, true, false, false, false, false, false, false, false, false, false, false, false, false, false, false, false, false] rfl rfl (by kernel_rfl) (fun _ _ _ h => h) (Or.inl ⟨by rfl, ?_⟩) ?_ ?_
            rotate_left
            · intro w'
              go_simp
              with_reducible rfl
            rotate_left
            · simp only [Act.put, List.setIfInBounds_toArray, List.set_cons_zero, List.set_cons_succ, i64_w, i32_w]
              rfl
            refine pure_ (i := 5) (N := some 23) (v := ?_) (a' := ?_) #[true, true, true, true, true, true, false, false, false, false, false, false, false, false, false, false, false, false, false, false, false] rfl rfl (by kernel_rfl) (fun _ _ _ h => h) (Or.inl ⟨by rfl, ?_⟩) ?_ ?_
            rotate_left
            · intro w'
              go_simp
              with_reducible rfl
            rotate_left
            · simp only [Act.put, List.setIfInBounds_toArray, List.set_cons_zero, List.set_cons_succ, i64_w, i32_w]
              rfl
            refine pure_ (i := 6) (N := some 24) (v := ?_) (a' := ?_) #[true, true, true, true, true, true, true, false, false, false, false, false, false, false, false, false, false, false, false, false, false] rfl rfl (by kernel_rfl) (fun _ _ _ h => h) (Or.inl ⟨by rfl, ?_⟩) ?_ ?_
            rotate_left
            · intro w'
              go_simp
              with_reducible rfl
            rotate_left
            · simp only [Act.put, List.setIfInBounds_toArray, List.set_cons_zero, List.set_cons_succ, i64_w, i32_w]
              rfl
            refine pure_ (i := 7) (N := some 25) (v := undef) (a' := ?_) #[true, true, true, true, true, true, true, true, false, false, false, false, false, false, false, false, false, false, false, false, false] rfl rfl (by kernel_rfl) (fun _ _ _ h => h) (Or.inr ⟨by rfl, rfl⟩) ?_ ?_
            rotate_left
            · simp only [Act.put, List.setIfInBounds_toArray, List.set_cons_zero, List.set_cons_succ, i64_w, i32_w]
              rfl
            refine pure_ (i := 8) (N := some 26) (v := undef) (a' := ?_) #[true, true, true, true, true, true, true, true, true, false, false, false, false, false, false, false, false, false, false, false, false] rfl rfl (by kernel_rfl) (fun _ _ _ h => h) (Or.inr ⟨by rfl, rfl⟩) ?_ ?_
            rotate_left
            · simp only [Act.put, List.setIfInBounds_toArray, List.set_cons_zero, List.set_cons_succ, i64_w, i32_w]
              rfl
            refine pure_ (i := 9) (N := some 27) (v := undef) (a' := ?_) #[true, true, true, true, true, true, true, true, true, true, false, false, false, false, false, false, false, false, false, false, false] rfl rfl (by kernel_rfl) (fun _ _ _ h => h) (Or.inr ⟨by rfl, rfl⟩) ?_ ?_
            rotate_left
            · simp only [Act.put, List.setIfInBounds_toArray, List.set_cons_zero, List.set_cons_succ, i64_w, i32_w]
              rfl
            refine pure_ (i := 10) (N := some 28) (v := undef) (a' := ?_) #[true, true, true, true, true, true, true, true, true, true, true, false, false, false, false, false, false, false, false, false, false] rfl rfl (by kernel_rfl) (fun _ _ _ h => h) (Or.inr ⟨by rfl, rfl⟩) ?_ ?_
            rotate_left
            · simp only [Act.put, List.setIfInBounds_toArray, List.set_cons_zero, List.set_cons_succ, i64_w, i32_w]
              rfl
            refine pure_ (i := 11) (N := some 29) (v := undef) (a' := ?_) #[true, true, true, true, true, true, true, true, true, true, true, true, false, false, false, false, false, false, false, false, false] rfl rfl (by kernel_rfl) (fun _ _ _ h => h) (Or.inr ⟨by rfl, rfl⟩) ?_ ?_
            rotate_left
            · simp only [Act.put, List.setIfInBounds_toArray, List.set_cons_zero, List.set_cons_succ, i64_w, i32_w]
              rfl
            refine pure_ (i := 12) (N := some 30) (v := undef) (a' := ?_) #[true, true, true, true, true, true, true, true, true, true, true, true, true, false, false, false, false, false, false, false, false] rfl rfl (by kernel_rfl) (fun _ _ _ h => h) (Or.inr ⟨by rfl, rfl⟩) ?_ ?_
            rotate_left
            · simp only [Act.put, List.setIfInBounds_toArray, List.set_cons_zero, List.set_cons_succ, i64_w, i32_w]
              rfl
            refine pure_ (i := 13) (N := some 31) (v := undef) (a' := ?_) #[true, true, true, true, true, true, true, true, true, true, true, true, true, true, false, false, false, false, false, false, false] rfl rfl (by kernel_rfl) (fun _ _ _ h => h) (Or.inr ⟨by rfl, rfl⟩) ?_ ?_
            rotate_left
            · simp only [Act.put, List.setIfInBounds_toArray, List.set_cons_zero, List.set_cons_succ, i64_w, i32_w]
              rfl
            refine pure_ (i := 14) (N := some 32) (v := undef) (a' := ?_) #[true, true, true, true, true, true, true, true, true, true, true, true, true, true, true, false, false, false, false, false, false] rfl rfl (by kernel_rfl) (fun _ _ _ h => h) (Or.inr ⟨by rfl, rfl⟩) ?_ ?_
            rotate_left
            · simp only [Act.put, List.setIfInBounds_toArray, List.set_cons_zero, List.set_cons_succ, i64_w, i32_w]
              rfl
            refine pure_ (i := 15) (N := some 33) (v := undef) (a' := ?_) #[true, true, true, true, true, true, true, true, true, true, true, true, true, true, true, true, false, false, false, false, false] rfl rfl (by kernel_rfl) (fun _ _ _ h => h) (Or.inr ⟨by rfl, rfl⟩) ?_ ?_
            rotate_left
            · simp only [Act.put, List.setIfInBounds_toArray, List.set_cons_zero, List.set_cons_succ, i64_w, i32_w]
              rfl
            refine pure_ (i := 16) (N := some 34) (v := undef) (a' := ?_) #[true, true, true, true, true, true, true, true, true, true, true, true, true, true, true, true, true, false, false, false, false] rfl rfl (by kernel_rfl) (fun _ _ _ h => h) (Or.inr ⟨by rfl, rfl⟩) ?_ ?_
            rotate_left
            · simp only [Act.put, List.setIfInBounds_toArray, List.set_cons_zero, List.set_cons_succ, i64_w, i32_w]
              rfl
            refine pure_ (i := 17) (N := some 35) (v := undef) (a' := ?_) #[true, true, true, true, true, true, true, true, true, true, true, true, true, true, true, true, true, true, false, false, false] rfl rfl (by kernel_rfl) (fun _ _ _ h => h) (Or.inr ⟨by rfl, rfl⟩) ?_ ?_
            rotate_left
            · simp only [Act.put, List.setIfInBounds_toArray, List.set_cons_zero, List.set_cons_succ, i64_w, i32_w]
              rfl
            refine pure_ (i := 18) (N := some 36) (v := undef) (a' := ?_) #[true, true, true, true, true, true, true, true, true, true, true, true, true, true, true, true, true, true, true, false, false] rfl rfl (by kernel_rfl) (fun _ _ _ h => h) (Or.inr ⟨by rfl, rfl⟩) ?_ ?_
            rotate_left
            · simp only [Act.put, List.setIfInBounds_toArray, List.set_cons_zero, List.set_cons_succ, i64_w, i32_w]
              rfl
            refine pure_ (i := 19) (N := some 37) (v := ?_) (a' := ?_) #[true, true, true, true, true, true, true, true, true, true, true, true, true, true, true, true, true, true, true, true, false] rfl rfl (by kernel_rfl) (fun _ _ _ h => h) (Or.inl ⟨by rfl, ?_⟩) ?_ ?_
            rotate_left
            · intro w'
              go_simp
              with_reducible rfl
            rotate_left
            · simp only [Act.put, List.setIfInBounds_toArray, List.set_cons_zero, List.set_cons_succ, i64_w, i32_w]
              rfl
            refine pure_ (i := 20) (N := some 38) (v := ?_) (a' := ?_) #[true, true, true, true, true, true, true, true, true, true, true, true, true, true, true, true, true, true, true, true, true] rfl rfl (by kernel_rfl) (fun _ _ _ h => h) (Or.inl ⟨by rfl, ?_⟩) ?_ ?_
            rotate_left
            · intro w'
              go_simp
              with_reducible rfl
            rotate_left
            · simp only [Act.put, List.setIfInBounds_toArray, List.set_cons_zero, List.set_cons_succ, i64_w, i32_w]
              rfl
            refine done_ (by kernel_rfl) ?_
            have hw := HWR.out
            have hwi : IntKind.i64.wrap ((j : Int) + 1) = ((j + 1 : Nat) : Int) := (i64_w _).trans hw
            go_wp2
            go_roundg gk
            case measure => have := HJ1.out; have := HLT.out; omega
            case rel => exact ⟨j + 1, (j : Int), HLT.out, by have := HJ1.out; have := HLT.out; omega, by first | rfl | rw [HWR.out], rfl, HB1, ⟨below_step HBW.out hHeld⟩⟩
          · rw [if_neg z1] at hst
            obtain ⟨i, rfl⟩ := Int.eq_ofNat_of_zero_le (show 0 ≤ b0 by omega)
            obtain ⟨tt, htt, rfl⟩ := Option.map_eq_some_iff.1 hst
            obtain ⟨⟨p1, p2⟩, hp, ht2⟩ := Option.bind_eq_some_iff.1 htt
            obtain ⟨⟨q1, q2⟩, hq, ht3⟩ := Option.bind_eq_some_iff.1 ht2
            obtain ⟨r, hr, rfl⟩ := Option.map_eq_some_iff.1 ht3
            have hil : i < j := by have := (selS_lt HB0.out).2; omega
            obtain ⟨y, hix⟩ : ∃ y, rd_T73 cs (i : Int) = y := ⟨_, rfl⟩
            rw [hix] at hq
            have HY := Aside0.mk hix
            have HP := Aside0.mk hp
            have HQ := Aside0.mk hq
            have HR := Aside0.mk hr
            have HIL := Aside0.mk hil
            have d0 : decide (0 < x.f0) = true := decide_eq_true z0
            have d1 : decide ((i : Int) < 0) = false := decide_eq_false z1
            have d2 : decide (0 ≤ (i : Int)) = true := decide_eq_true (by omega)
            have d3 : decide ((i : Int) < (cs.length : Int)) = true := decide_eq_true (by omega)
            have d4 : decide (i < cs.length) = true := decide_eq_true (by omega)
            have d5 : i < cs.length := by omega
            clear z0 z1 hst htt hp ht2 hq ht3 hr hil hix
            go_wp2
            generalize wr.alloc (.cells #[.int .u64 x.f0, .int .i64 x.f1] 73) = wa at hk5 hbw ⊢
            generalize wr.heap.size = g5 at hk5 ⊢
            have HK5 := Aside0.mk hk5
            have HBW := Aside0.mk hbw
            clear hk5 hbw
            refine start_ (n := 21) (S := fun w' => Below wa.heap.size wa w') (ds := []) #[false, false, false, false, false, false, false, false, false, false, false, false, false, false, false, false, false, false, false, false, false] (by kernel_rfl) rfl rfl (below_drew (Below.refl _ _)) (fun hHeld => ?_)
            refine pure_ (i := 0) (N := some 18) (v := ?_) (a' := ?_) #[true, false, false, false, false, false, false, false, false, false, false, false, false, false, false, false, false, false, false, false, false] rfl rfl (by kernel_rfl) (fun _ _ _ h => h) (Or.inl ⟨by rfl, ?_⟩) ?_ ?_
            rotate_left
            · intro w'
              go_simp
              with_reducible rfl
            rotate_left
            · simp only [Act.put, List.setIfInBounds_toArray, List.set_cons_zero, List.set_cons_succ, i64_w, i32_w]
              rfl
            refine take_ (i := 1) (N := some 19) (v := ?_) (a' := ?_) #[true, true, false, false, false, false, false, false, false, false, false, false, false, false, false, false, false, false, false, false, false] rfl rfl (by kernel_rfl) (fun _ _ _ h => h) (Or.inl ⟨by rfl, ?_⟩) hHeld ?_ ?_
            rotate_left
            · intro w' hw'
              have x1 := (blk_cell (blk_below HK5.out hw') 0).trans rfl
              go_simp
              with_reducible rfl
            rotate_left
            · simp only [Act.put, List.setIfInBounds_toArray, List.set_cons_zero, List.set_cons_succ, i64_w, i32_w]
              rfl
            refine pure_ (i := 2) (N := some 20) (v := ?_) (a' := ?_) #[true, true, true, false, false, false, false, false, false, false, false, false, false, false, false, false, false, false, false, false, false] rfl rfl (by kernel_rfl) (fun _ _ _ h => h) (Or.inl ⟨by rfl, ?_⟩) ?_ ?_
            rotate_left
            · intro w'
              go_simp
              with_reducible rfl
            rotate_left
            · simp only [Act.put, List.setIfInBounds_toArray, List.set_cons_zero, List.set_cons_succ, i64_w, i32_w]
              rfl
            refine pure_ (i := 3) (N := some 21) (v := ?_) (a' := ?_) #[true, true, true, true, false, false, false, false, false, false, false, false, false, false, false, false, false, false, false, false, false] rfl rfl (by kernel_rfl) (fun _ _ _ h => h) (Or.inl ⟨by rfl, ?_⟩) ?_ ?_
            rotate_left
            · intro w'
              go_simp
              with_reducible rfl
            rotate_left
            · simp only [Act.put, List.setIfInBounds_toArray, List.set_cons_zero, List.set_cons_succ, i64_w, i32_w]
              rfl
            refine pure_ (i := 4) (N := some 22) (v := ?_) (a' := ?_) #[true, true, true, true, true, false, false, false, false, false, false, false, false, false, false, false, false, false, false, false, false] rfl rfl (by kernel_rfl) (fun _ _ _ h => h) (Or.inl ⟨by rfl, ?_⟩) ?_ ?_
            rotate_left
            · intro w'
              go_simp
              with_reducible rfl
            rotate_left
            · simp only [Act.put, List.setIfInBounds_toArray, List.set_cons_zero, List.set_cons_succ, i64_w, i32_w]
              rfl
            refine pure_ (i := 5) (N := some 23) (v := ?_) (a' := ?_) #[true, true, true, true, true, true, false, false, false, false, false, false, false, false, false, false, false, false, false, false, false] rfl rfl (by kernel_rfl) (fun _ _ _ h => h) (Or.inl ⟨by rfl, ?_⟩) ?_ ?_
            rotate_left
            · intro w'
              go_simp
              with_reducible rfl
            rotate_left
            · simp only [Act.put, List.setIfInBounds_toArray, List.set_cons_zero, List.set_cons_succ, i64_w, i32_w]
              rfl
            refine pure_ (i := 6) (N := some 24) (v := ?_) (a' := ?_) #[true, true, true, true, true, true, true, false, false, false, false, false, false, false, false, false, false, false, false, false, false] rfl rfl (by kernel_rfl) (fun _ _ _ h => h) (Or.inl ⟨by rfl, ?_⟩) ?_ ?_
            rotate_left
            · intro w'
              go_simp
              with_reducible rfl
            rotate_left
            · simp only [Act.put, List.setIfInBounds_toArray, List.set_cons_zero, List.set_cons_succ, i64_w, i32_w]
              rfl
            refine pure_ (i := 9) (N := some 27) (v := ?_) (a' := ?_) #[true, true, true, true, true, true, true, false, false, true, false, false, false, false, false, false, false, false, false, false, false] rfl rfl (by kernel_rfl) (fun _ _ _ h => h) (Or.inl ⟨by rfl, ?_⟩) ?_ ?_
            rotate_left
            · intro w'
              go_simp
              with_reducible rfl
            rotate_left
            · simp only [Act.put, List.setIfInBounds_toArray, List.set_cons_zero, List.set_cons_succ, i64_w, i32_w]
              rfl
            refine pure_ (i := 10) (N := some 28) (v := ?_) (a' := ?_) #[true, true, true, true, true, true, true, false, false, true, true, false, false, false, false, false, false, false, false, false, false] rfl rfl (by kernel_rfl) (fun _ _ _ h => h) (Or.inl ⟨by rfl, ?_⟩) ?_ ?_
            rotate_left
            · intro w'
              go_simp
              with_reducible rfl
            rotate_left
            · simp only [Act.put, List.setIfInBounds_toArray, List.set_cons_zero, List.set_cons_succ, i64_w, i32_w]
              rfl
            refine pure_ (i := 11) (N := some 29) (v := ?_) (a' := ?_) #[true, true, true, true, true, true, true, false, false, true, true, true, false, false, false, false, false, false, false, false, false] rfl rfl (by kernel_rfl) (fun _ _ _ h => h) (Or.inl ⟨by rfl, ?_⟩) ?_ ?_
            rotate_left
            · intro w'
              go_simp
              with_reducible rfl
            rotate_left
            · simp only [Act.put, List.setIfInBounds_toArray, List.set_cons_zero, List.set_cons_succ, i64_w, i32_w]
              rfl
            refine pure_ (i := 13) (N := some 31) (v := ?_) (a' := ?_) #[true, true, true, true, true, true, true, false, false, true, true, true, false, true, false, false, false, false, false, false, false] rfl rfl (by kernel_rfl) (fun _ _ _ h => h) (Or.inl ⟨by rfl, ?_⟩) ?_ ?_
            rotate_left
            · intro w'
              go_simp
              with_reducible rfl
            rotate_left
            · simp only [Act.put, List.setIfInBounds_toArray, List.set_cons_zero, List.set_cons_succ, i64_w, i32_w]
              rfl
            refine take_ (i := 7) (N := some 25) (v := ?_) (a' := ?_) #[true, true, true, true, true, true, true, true, false, true, true, true, false, true, false, false, false, false, false, false, false] rfl rfl (by kernel_rfl) (fun _ _ _ h => h) (Or.inl ⟨by rfl, ?_⟩) hHeld ?_ ?_
            rotate_left
            · intro w' hw'
              have x1 := (blk_cell (blk_below HK5.out hw') 0).trans rfl
              have x2 := (blk_cell (blk_below HK5.out hw') 1).trans rfl
              go_simp
              with_reducible rfl
            rotate_left
            · simp only [Act.put, List.setIfInBounds_toArray, List.set_cons_zero, List.set_cons_succ, i64_w, i32_w]
              rfl
            refine take_ (i := 12) (N := some 30) (v := ?_) (a' := ?_) #[true, true, true, true, true, true, true, true, false, true, true, true, true, true, false, false, false, false, false, false, false] rfl rfl (by kernel_rfl) (fun _ _ _ h => h) (Or.inl ⟨by rfl, ?_⟩) hHeld ?_ ?_
            rotate_left
            · intro w' hw'
              have x1 := (blk_cell (HS.out.below (below_step HBW.out hw')).1 0).trans rfl
              go_simp
              with_reducible rfl
            rotate_left
            · simp only [Act.put, List.setIfInBounds_toArray, List.set_cons_zero, List.set_cons_succ, i64_w, i32_w]
              rfl
            refine pure_ (i := 14) (N := some 32) (v := ?_) (a' := ?_) #[true, true, true, true, true, true, true, true, false, true, true, true, true, true, true, false, false, false, false, false, false] rfl rfl (by kernel_rfl) (fun _ _ _ h => h) (Or.inl ⟨by rfl, ?_⟩) ?_ ?_
            rotate_left
            · intro w'
              go_simp
              with_reducible rfl
            rotate_left
            · simp only [Act.put, List.setIfInBounds_toArray, List.set_cons_zero, List.set_cons_succ, i64_w, i32_w]
              rfl
            refine take_ (i := 15) (N := some 33) (v := ?_) (a' := ?_) #[true, true, true, true, true, true, true, true, false, true, true, true, true, true, true, true, false, false, false, false, false] rfl rfl (by kernel_rfl) (fun _ _ _ h => h) (Or.inl ⟨by rfl, ?_⟩) hHeld ?_ ?_
            rotate_left
            · intro w' hw'
              obtain ⟨ad2, e2, x1, x2⟩ := at_T73 (Kd.C_below HC.out (below_step HBW.out hw')) (i : Int) (Int.natCast_nonneg i) (by have := HIL.out; have := HLT.out; omega)
              cases e2
              rw [Int.toNat_natCast, HY.out] at x1 x2
              go_simp
              with_reducible rfl
            rotate_left
            · simp only [Act.put, List.setIfInBounds_toArray, List.set_cons_zero, List.set_cons_succ, i64_w, i32_w]
              rfl
            refine one_ (i := 8) (N := some 26) #[true, true, true, true, true, true, true, true, true, true, true, true, true, true, true, true, false, false, false, false, false] rfl rfl (by kernel_rfl) (by decide) (fun K hK => ?_)
            refine goes_ Try.func42 (by kernel_rfl) rfl #[.agg #[.int .u64 x.f0, .int .i64 x.f1]] (by rfl) rfl rfl (by first | (simp only [List.map_toArray, List.map_cons, List.map_nil]; done) | (simp only [List.map_toArray, List.map_cons, List.map_nil]; rfl)) ?_
            refine (stride_client_pass.calls kf x.f0 x.f1 p1 p2 _ HP.out).mono ?_
            rintro e w8 ⟨v8, u8, rfl, hR8, hT8, hb8⟩
            obtain ⟨A8, c8, rfl⟩ := Kd.R_slice hR8
            obtain ⟨B8, d8, rfl⟩ := Kd.R_slice hT8
            refine ⟨_, rfl, ?_⟩
            refine hK.out _ _ (hHeld.trans ((hb8).mono hHeld.size)) (fun hHeld => ?_)
            clear hK K
            refine norm_ (a' := ?_) ?_ ?_
            rotate_left
            · show Act.put _ (some 26) _ = _
              simp only [Act.put, List.setIfInBounds_toArray, List.set_cons_zero, List.set_cons_succ, i64_w, i32_w]
              rfl
            have hS2 : Below wa.heap.size wa w8 ∧ Kd.R (Kd.int .u32) 114 w8 0 (fun _ => True) (.slice A8 p1.length c8) p1 ∧ Kd.R (Kd.int .u32) 114 w8 0 (fun _ => True) (.slice B8 p2.length d8) p2 := ⟨hHeld, Kd.R_mono (Kd.R_lower hR8 (Nat.zero_le _)) (fun _ _ => trivial), Kd.R_mono (Kd.R_lower hT8 (Nat.zero_le _)) (fun _ _ => trivial)⟩
            refine last_mono (S2 := fun w' => Below wa.heap.size wa w' ∧ Kd.R (Kd.int .u32) 114 w' 0 (fun _ => True) (.slice A8 p1.length c8) p1 ∧ Kd.R (Kd.int .u32) 114 w' 0 (fun _ => True) (.slice B8 p2.length d8) p2) hS2 (fun w' h => h.1) ?_
            clear hHeld
            have hHeld := hS2
            clear hS2
            refine one_ (i := 16) (N := some 34) #[true, true, true, true, true, true, true, true, true, true, true, true, true, true, true, true, true, false, false, false, false] rfl rfl (by kernel_rfl) (by decide) (fun K hK => ?_)
            refine goes_ Try.func42 (by kernel_rfl) rfl #[.agg #[.int .u64 y.f0, .int .i64 y.f1]] (by rfl) rfl rfl (by first | (simp only [List.map_toArray, List.map_cons, List.map_nil]; done) | (simp only [List.map_toArray, List.map_cons, List.map_nil]; rfl)) ?_
            refine (stride_client_pass.calls kf y.f0 y.f1 q1 q2 _ HQ.out).mono ?_
            rintro e w16 ⟨v16, u16, rfl, hR16, hT16, hb16⟩
            obtain ⟨A16, c16, rfl⟩ := Kd.R_slice hR16
            obtain ⟨B16, d16, rfl⟩ := Kd.R_slice hT16
            refine ⟨_, rfl, ?_⟩
            refine hK.out _ _ ⟨(hHeld.1.trans ((hb16).mono hHeld.1.size)), (Kd.R_below hHeld.2.1 (hb16)), (Kd.R_below hHeld.2.2 (hb16))⟩ (fun hHeld => ?_)
            clear hK K
            refine norm_ (a' := ?_) ?_ ?_
            rotate_left
            · show Act.put _ (some 34) _ = _
              simp only [Act.put, List.setIfInBounds_toArray, List.set_cons_zero, List.set_cons_succ, i64_w, i32_w]
              rfl
            have hS2 : Below wa.heap.size wa w16 ∧ Kd.R (Kd.int .u32) 114 w16 0 (fun _ => True) (.slice A8 p1.length c8) p1 ∧ Kd.R (Kd.int .u32) 114 w16 0 (fun _ => True) (.slice B8 p2.length d8) p2 ∧ Kd.R (Kd.int .u32) 114 w16 0 (fun _ => True) (.slice A16 q1.length c16) q1 ∧ Kd.R (Kd.int .u32) 114 w16 0 (fun _ => True) (.slice B16 q2.length d16) q2 := ⟨hHeld.1, hHeld.2.1, hHeld.2.2, Kd.R_mono (Kd.R_lower hR16 (Nat.zero_le _)) (fun _ _ => trivial), Kd.R_mono (Kd.R_lower hT16 (Nat.zero_le _)) (fun _ _ => trivial)⟩
            refine last_mono (S2 := fun w' => Below wa.heap.size wa w' ∧ Kd.R (Kd.int .u32) 114 w' 0 (fun _ => True) (.slice A8 p1.length c8) p1 ∧ Kd.R (Kd.int .u32) 114 w' 0 (fun _ => True) (.slice B8 p2.length d8) p2 ∧ Kd.R (Kd.int .u32) 114 w' 0 (fun _ => True) (.slice A16 q1.length c16) q1 ∧ Kd.R (Kd.int .u32) 114 w' 0 (fun _ => True) (.slice B16 q2.length d16) q2) hS2 (fun w' h => ⟨h.1, h.2.1, h.2.2.1⟩) ?_
            clear hHeld
            have hHeld := hS2
            clear hS2
            refine one_ (i := 17) (N := some 35) #[true, true, true, true, true, true, true, true, true, true, true, true, true, true, true, true, true, true, false, false, false] rfl rfl (by kernel_rfl) (by decide) (fun K hK => ?_)
            refine goes_ Try.func41 (by kernel_rfl) rfl #[.agg #[.slice A8 p1.length c8, .slice B8 p2.length d8], .agg #[.slice A16 q1.length c16, .slice B16 q2.length d16]] (by rfl) rfl rfl (by first | (simp only [List.map_toArray, List.map_cons, List.map_nil]; done) | (simp only [List.map_toArray, List.map_cons, List.map_nil]; rfl)) ?_
            refine (ratio_Cmp.calls kf (fun _ => True) A8 c8 p1 (fun _ => True) B8 d8 p2 (fun _ => True) A16 c16 q1 (fun _ => True) B16 d16 q2 r _ (V_ofR hHeld.2.1) (V_ofR hHeld.2.2.1) (V_ofR hHeld.2.2.2.1) (V_ofR hHeld.2.2.2.2) HR.out).mono ?_
            rintro e w17 ⟨rfl, hb17⟩
            refine ⟨_, rfl, ?_⟩
            refine hK.out _ _ ⟨(hHeld.1.trans ((hb17).mono hHeld.1.size)), (Kd.R_below hHeld.2.1 (hb17)), (Kd.R_below hHeld.2.2.1 (hb17)), (Kd.R_below hHeld.2.2.2.1 (hb17)), (Kd.R_below hHeld.2.2.2.2 (hb17))⟩ (fun hHeld => ?_)
            clear hK K
            refine norm_ (a' := ?_) ?_ ?_
            rotate_left
            · show Act.put _ (some 35) _ = _
              simp only [Act.put, List.setIfInBounds_toArray, List.set_cons_zero, List.set_cons_succ, i64_w, i32_w]
              rfl
            refine pure_ (i := 18) (N := some 36) (v := ?_) (a' := ?_) #[true, true, true, true, true, true, true, true, true, true, true, true, true, true, true, true, true, true, true, false, false] rfl rfl (by kernel_rfl) (fun _ _ _ h => h) (Or.inl ⟨by rfl, ?_⟩) ?_ ?_
            rotate_left
            · intro w'
              go_simp
              with_reducible rfl
            rotate_left
            · simp only [Act.put, List.setIfInBounds_toArray, List.set_cons_zero, List.set_cons_succ, i64_w, i32_w]
              rfl
            refine pure_ (i := 19) (N := some 37) (v := ?_) (a' := ?_) #[true, true, true, true, true, true, true, true, true, true, true, true, true, true, true, true, true, true, true, true, false] rfl rfl (by kernel_rfl) (fun _ _ _ h => h) (Or.inl ⟨by rfl, ?_⟩) ?_ ?_
            rotate_left
            · intro w'
              go_simp
              with_reducible rfl
            rotate_left
            · simp only [Act.put, List.setIfInBounds_toArray, List.set_cons_zero, List.set_cons_succ, i64_w, i32_w]
              rfl
            refine pure_ (i := 20) (N := some 38) (v := ?_) (a' := ?_) #[true, true, true, true, true, true, true, true, true, true, true, true, true, true, true, true, true, true, true, true, true] rfl rfl (by kernel_rfl) (fun _ _ _ h => h) (Or.inl ⟨by rfl, ?_⟩) ?_ ?_
            rotate_left
            · intro w'
              go_simp
              with_reducible rfl
            rotate_left
            · simp only [Act.put, List.setIfInBounds_toArray, List.set_cons_zero, List.set_cons_succ, i64_w, i32_w]
              rfl
            refine done_ (by kernel_rfl) ?_
            by_cases z4 : r < 0
            · have z5 : decide (r < 0) = true := decide_eq_true z4
              have HB2 : Aside0 (selS kf cs (j + 1) = some (j : Int)) := ⟨by rw [HB1.out, z5]; rfl⟩
              clear z4
              simp only [z5]
              have hw := HWR.out
              have hwi : IntKind.i64.wrap ((j : Int) + 1) = ((j + 1 : Nat) : Int) := (i64_w _).trans hw
              go_wp2
              go_roundg gk
              case measure => have := HJ1.out; have := HLT.out; omega
              case rel => exact ⟨j + 1, (j : Int), HLT.out, by have := HJ1.out; have := HLT.out; omega, by first | rfl | rw [HWR.out], rfl, HB2, ⟨below_step HBW.out hHeld.1⟩⟩
            · have z5 : decide (r < 0) = false := decide_eq_false z4
              have HB2 : Aside0 (selS kf cs (j + 1) = some (i : Int)) := ⟨by rw [HB1.out, z5]; rfl⟩
              clear z4
              simp only [z5]
              have hw := HWR.out
              have hwi : IntKind.i64.wrap ((j : Int) + 1) = ((j + 1 : Nat) : Int) := (i64_w _).trans hw
              go_wp2
              go_roundg gk
              case measure => have := HJ1.out; have := HLT.out; omega
              case rel => exact ⟨j + 1, (i : Int), HLT.out, by have := HJ1.out; have := HLT.out; omega, by first | rfl | rw [HWR.out], rfl, HB2, ⟨below_step HBW.out hHeld.1⟩⟩
        · rw [if_neg z0] at hst
          cases hst
          have d0 : decide (0 < x.f0) = false := decide_eq_false z0
          clear z0
          go_wp2
          generalize wr.alloc (.cells #[.int .u64 x.f0, .int .i64 x.f1] 73) = wa at hk5 hbw ⊢
          generalize wr.heap.size = g5 at hk5 ⊢
          have HK5 := Aside0.mk hk5
          have HBW := Aside0.mk hbw
          clear hk5 hbw
          refine start_ (n := 21) (S := fun w' => Below wa.heap.size wa w') (ds := []) #[false, false, false, false, false, false, false, false, false, false, false, false, false, false, false, false, false, false, false, false, false] (by kernel_rfl) rfl rfl (below_drew (Below.refl _ _)) (fun hHeld => ?_)
          refine pure_ (i := 0) (N := some 18) (v := ?_) (a' := ?_) #[true, false, false, false, false, false, false, false, false, false, false, false, false, false, false, false, false, false, false, false, false] rfl rfl (by kernel_rfl) (fun _ _ _ h => h) (Or.inl ⟨by rfl, ?_⟩) ?_ ?_
          rotate_left
          · intro w'
            go_simp
            with_reducible rfl
          rotate_left
          · simp only [Act.put, List.setIfInBounds_toArray, List.set_cons_zero, List.set_cons_succ, i64_w, i32_w]
            rfl
          refine take_ (i := 1) (N := some 19) (v := ?_) (a' := ?_) #[true, true, false, false, false, false, false, false, false, false, false, false, false, false, false, false, false, false, false, false, false] rfl rfl (by kernel_rfl) (fun _ _ _ h => h) (Or.inl ⟨by rfl, ?_⟩) hHeld ?_ ?_
          rotate_left
          · intro w' hw'
            have x1 := (blk_cell (blk_below HK5.out hw') 0).trans rfl
            go_simp
            with_reducible rfl
          rotate_left
          · simp only [Act.put, List.setIfInBounds_toArray, List.set_cons_zero, List.set_cons_succ, i64_w, i32_w]
            rfl
          refine pure_ (i := 2) (N := some 20) (v := ?_) (a' := ?_) #[true, true, true, false, false, false, false, false, false, false, false, false, false, false, false, false, false, false, false, false, false] rfl rfl (by kernel_rfl) (fun _ _ _ h => h) (Or.inl ⟨by rfl, ?_⟩) ?_ ?_
          rotate_left
          · intro w'
            go_simp
            with_reducible rfl
          rotate_left
          · simp only [Act.put, List.setIfInBounds_toArray, List.set_cons_zero, List.set_cons_succ, i64_w, i32_w]
            rfl
          refine pure_ (i := 3) (N := some 21) (v := ?_) (a' := ?_) #[true, true, true, true, false, false, false, false, false, false, false, false, false, false, false, false, false, false, false, false, false] rfl rfl (by kernel_rfl) (fun _ _ _ h => h) (Or.inl ⟨by rfl, ?_⟩) ?_ ?_
          rotate_left
          · intro w'
            go_simp
            with_reducible rfl
          rotate_left
          · simp only [Act.put, List.setIfInBounds_toArray, List.set_cons_zero, List.set_cons_succ, i64_w, i32_w]
            rfl
          refine pure_ (i := 4) (N := some 22) (v := undef) (a' := ?_) #[true, true, true, true, true, false, false, false, false, false, false, false, false, false, false, false, false, false, false, false, false] rfl rfl (by kernel_rfl) (fun _ _ _ h => h) (Or.inr ⟨by rfl, rfl⟩) ?_ ?_
          rotate_left
          · simp only [Act.put, List.setIfInBounds_toArray, List.set_cons_zero, List.set_cons_succ, i64_w, i32_w]
            rfl
          refine pure_ (i := 5) (N := some 23) (v := undef) (a' := ?_) #[true, true, true, true, true, true, false, false, false, false, false, false, false, false, false, false, false, false, false, false, false] rfl rfl (by kernel_rfl) (fun _ _ _ h => h) (Or.inr ⟨by rfl, rfl⟩) ?_ ?_
          rotate_left
          · simp only [Act.put, List.setIfInBounds_toArray, List.set_cons_zero, List.set_cons_succ, i64_w, i32_w]
            rfl
          refine pure_ (i := 6) (N := some 24) (v := undef) (a' := ?_) #[true, true, true, true, true, true, true, false, false, false, false, false, false, false, false, false, false, false, false, false, false] rfl rfl (by kernel_rfl) (fun _ _ _ h => h) (Or.inr ⟨by rfl, rfl⟩) ?_ ?_
          rotate_left
          · simp only [Act.put, List.setIfInBounds_toArray, List.set_cons_zero, List.set_cons_succ, i64_w, i32_w]
            rfl
          refine pure_ (i := 7) (N := some 25) (v := undef) (a' := ?_) #[true, true, true, true, true, true, true, true, false, false, false, false, false, false, false, false, false, false, false, false, false] rfl rfl (by kernel_rfl) (fun _ _ _ h => h) (Or.inr ⟨by rfl, rfl⟩) ?_ ?_
          rotate_left
          · simp only [Act.put, List.setIfInBounds_toArray, List.set_cons_zero, List.set_cons_succ, i64_w, i32_w]
            rfl
          refine pure_ (i := 8) (N := some 26) (v := undef) (a' := ?_) #[true, true, true, true, true, true, true, true, true, false, false, false, false, false, false, false, false, false, false, false, false] rfl rfl (by kernel_rfl) (fun _ _ _ h => h) (Or.inr ⟨by rfl, rfl⟩) ?_ ?_
          rotate_left
          · simp only [Act.put, List.setIfInBounds_toArray, List.set_cons_zero, List.set_cons_succ, i64_w, i32_w]
            rfl
          refine pure_ (i := 9) (N := some 27) (v := undef) (a' := ?_) #[true, true, true, true, true, true, true, true, true, true, false, false, false, false, false, false, false, false, false, false, false] rfl rfl (by kernel_rfl) (fun _ _ _ h => h) (Or.inr ⟨by rfl, rfl⟩) ?_ ?_
          rotate_left
          · simp only [Act.put, List.setIfInBounds_toArray, List.set_cons_zero, List.set_cons_succ, i64_w, i32_w]
            rfl
          refine pure_ (i := 10) (N := some 28) (v := undef) (a' := ?_) #[true, true, true, true, true, true, true, true, true, true, true, false, false, false, false, false, false, false, false, false, false] rfl rfl (by kernel_rfl) (fun _ _ _ h => h) (Or.inr ⟨by rfl, rfl⟩) ?_ ?_
          rotate_left
          · simp only [Act.put, List.setIfInBounds_toArray, List.set_cons_zero, List.set_cons_succ, i64_w, i32_w]
            rfl
          refine pure_ (i := 11) (N := some 29) (v := undef) (a' := ?_) #[true, true, true, true, true, true, true, true, true, true, true, true, false, false, false, false, false, false, false, false, false] rfl rfl (by kernel_rfl) (fun _ _ _ h => h) (Or.inr ⟨by rfl, rfl⟩) ?_ ?_
          rotate_left
          · simp only [Act.put, List.setIfInBounds_toArray, List.set_cons_zero, List.set_cons_succ, i64_w, i32_w]
            rfl
          refine pure_ (i := 12) (N := some 30) (v := undef) (a' := ?_) #[true, true, true, true, true, true, true, true, true, true, true, true, true, false, false, false, false, false, false, false, false] rfl rfl (by kernel_rfl) (fun _ _ _ h => h) (Or.inr ⟨by rfl, rfl⟩) ?_ ?_
          rotate_left
          · simp only [Act.put, List.setIfInBounds_toArray, List.set_cons_zero, List.set_cons_succ, i64_w, i32_w]
            rfl
          refine pure_ (i := 13) (N := some 31) (v := undef) (a' := ?_) #[true, true, true, true, true, true, true, true, true, true, true, true, true, true, false, false, false, false, false, false, false] rfl rfl (by kernel_rfl) (fun _ _ _ h => h) (Or.inr ⟨by rfl, rfl⟩) ?_ ?_
          rotate_left
          · simp only [Act.put, List.setIfInBounds_toArray, List.set_cons_zero, List.set_cons_succ, i64_w, i32_w]
            rfl
          refine pure_ (i := 14) (N := some 32) (v := undef) (a' := ?_) #[true, true, true, true, true, true, true, true, true, true, true, true, true, true, true, false, false, false, false, false, false] rfl rfl (by kernel_rfl) (fun _ _ _ h => h) (Or.inr ⟨by rfl, rfl⟩) ?_ ?_
          rotate_left
          · simp only [Act.put, List.setIfInBounds_toArray, List.set_cons_zero, List.set_cons_succ, i64_w, i32_w]
            rfl
          refine pure_ (i := 15) (N := some 33) (v := undef) (a' := ?_) #[true, true, true, true, true, true, true, true, true, true, true, true, true, true, true, true, false, false, false, false, false] rfl rfl (by kernel_rfl) (fun _ _ _ h => h) (Or.inr ⟨by rfl, rfl⟩) ?_ ?_
          rotate_left
          · simp only [Act.put, List.setIfInBounds_toArray, List.set_cons_zero, List.set_cons_succ, i64_w, i32_w]
            rfl
          refine pure_ (i := 16) (N := some 34) (v := undef) (a' := ?_) #[true, true, true, true, true, true, true, true, true, true, true, true, true, true, true, true, true, false, false, false, false] rfl rfl (by kernel_rfl) (fun _ _ _ h => h) (Or.inr ⟨by rfl, rfl⟩) ?_ ?_
          rotate_left
          · simp only [Act.put, List.setIfInBounds_toArray, List.set_cons_zero, List.set_cons_succ, i64_w, i32_w]
            rfl
          refine pure_ (i := 17) (N := some 35) (v := undef) (a' := ?_) #[true, true, true, true, true, true, true, true, true, true, true, true, true, true, true, true, true, true, false, false, false] rfl rfl (by kernel_rfl) (fun _ _ _ h => h) (Or.inr ⟨by rfl, rfl⟩) ?_ ?_
          rotate_left
          · simp only [Act.put, List.setIfInBounds_toArray, List.set_cons_zero, List.set_cons_succ, i64_w, i32_w]
            rfl
          refine pure_ (i := 18) (N := some 36) (v := undef) (a' := ?_) #[true, true, true, true, true, true, true, true, true, true, true, true, true, true, true, true, true, true, true, false, false] rfl rfl (by kernel_rfl) (fun _ _ _ h => h) (Or.inr ⟨by rfl, rfl⟩) ?_ ?_
          rotate_left
          · simp only [Act.put, List.setIfInBounds_toArray, List.set_cons_zero, List.set_cons_succ, i64_w, i32_w]
            rfl
          refine pure_ (i := 19) (N := some 37) (v := undef) (a' := ?_) #[true, true, true, true, true, true, true, true, true, true, true, true, true, true, true, true, true, true, true, true, false] rfl rfl (by kernel_rfl) (fun _ _ _ h => h) (Or.inr ⟨by rfl, rfl⟩) ?_ ?_
          rotate_left
          · simp only [Act.put, List.setIfInBounds_toArray, List.set_cons_zero, List.set_cons_succ, i64_w, i32_w]
            rfl
          refine pure_ (i := 20) (N := some 38) (v := ?_) (a' := ?_) #[true, true, true, true, true, true, true, true, true, true, true, true, true, true, true, true, true, true, true, true, true] rfl rfl (by kernel_rfl) (fun _ _ _ h => h) (Or.inl ⟨by rfl, ?_⟩) ?_ ?_
          rotate_left
          · intro w'
            go_simp
            with_reducible rfl
          rotate_left
          · simp only [Act.put, List.setIfInBounds_toArray, List.set_cons_zero, List.set_cons_succ, i64_w, i32_w]
            rfl
          refine done_ (by kernel_rfl) ?_
          have hw := HWR.out
          have hwi : IntKind.i64.wrap ((j : Int) + 1) = ((j + 1 : Nat) : Int) := (i64_w _).trans hw
          go_wp2
          go_roundg gk
          case measure => have := HJ1.out; have := HLT.out; omega
          case rel => exact ⟨j + 1, b0, HLT.out, by have := HJ1.out; have := HLT.out; omega, by first | rfl | rw [HWR.out], rfl, HB1, ⟨below_step HBW.out hHeld⟩⟩
      · obtain rfl : j = cs.length := by omega
        have c1 : decide ((cs.length : Int) < (cs.length : Int)) = false := decide_eq_false (by omega)
        obtain rfl : b0 = (b : Int) := by have := HB0.out.symm.trans H.out; simpa using this
        have hbl := (selS_lt H.out).2
        have hbn : b < cs.length := by omega
        have d2 : decide (0 ≤ (b : Int)) = true := decide_eq_true (by omega)
        have d3 : decide ((b : Int) < (cs.length : Int)) = true := decide_eq_true (by omega)
        have d4 : decide (b < cs.length) = true := decide_eq_true hbn
        obtain ⟨ad, c2, hA, hx0, hx1, hf, hput⟩ := (HS.out.below HW.out).elem b hbn
        injection hA with hA hA2 hA3
        subst hA
        subst hA3
        have HPUT := Aside0.mk hput
        have hov := HOV.out
        have ho1 : wrap64 ((rd_T73 cs (b : Int)).f1 + 1) = (rd_T73 cs (b : Int)).f1 + 1 := by unfold wrap64; omega
        have ho2 : IntKind.i64.wrap ((rd_T73 cs (b : Int)).f1 + 1) = (rd_T73 cs (b : Int)).f1 + 1 := (i64_w _).trans ho1
        have HO1 := Aside0.mk ho1
        have hg := (blk_cell (HS.out.below HW.out).1 0).trans rfl
        clear hput hov
        go_wp2
        go_ret
        have hp := HPUT.out ((rd_T73 cs (b : Int)).f1 + 1)
        refine ⟨rfl, hp.1, ?_⟩
        exact ⟨(KeepBut.of_below HW.out g _).trans hp.2.1 (.inl rfl), (HW.out.mono (Nat.le_of_lt (Nat.lt_of_le_of_lt HS.out.2.1 (blk_lt HS.out.1)))).trans hp.2.2⟩
end Go.Proofs.Yteipfcflijdapaa.F
