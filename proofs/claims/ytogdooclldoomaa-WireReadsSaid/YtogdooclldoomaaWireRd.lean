import Derived.Deep.RegionWith
import Derived.Test.YtogdooclldoomaaFSlicesA
namespace Go.Proofs.Ytogdooclldoomaa.F
open Go.RowKit Go.Proofs.YtogdooclldoomaaW.PrintWords Go.Proofs.YtogdooclldoomaaW.PrintLast Go.Proofs.YtogdooclldoomaaW.PrintMore
set_option linter.unusedSimpArgs false
set_option linter.unusedVariables false
/-! The reader of bytes, walked by hand. -/
/-- A reader at block g: what is left, and with which error it is broken; its bytes are older than w0. -/
def Rd (w0 W : World) (g : Nat) (l : List Int) (e : Int) : Prop :=
  ∃ A c, W.heap[g]? = some (.cells #[.slice A l.length c, .int .i64 e] 114 (0, 0)) ∧ w0.heap.size ≤ g ∧ Kd.C (Kd.int .u8) w0 A l.length l ∧ l.length ≤ c
theorem Rd.facts {w0 W : World} {g : Nat} {l : List Int} {e : Int} (h : Rd w0 W g l e) :
    ∃ A c, l.length ≤ c ∧ Kd.C (Kd.int .u8) w0 A l.length l ∧ W.heap[g]? = some (.cells #[.slice A l.length c, .int .i64 e] 114 (0, 0)) ∧ w0.heap.size ≤ g ∧ W.cell? ⟨g, 0, none⟩ = some (.slice A l.length c) ∧ W.cell? ⟨g, 1, none⟩ = some (.int .i64 e) ∧ W.frozen? ⟨g, 0, none⟩ = false ∧ W.frozen? ⟨g, 1, none⟩ = false := by
  obtain ⟨A, c, hb, hg, hC, hc⟩ := h
  exact ⟨A, c, hc, hC, hb, hg, (blk_cell hb 0).trans rfl, (blk_cell hb 1).trans rfl, blk_frozen hb 0, blk_frozen hb 1⟩
theorem Rd.below {w0 W W1 : World} {g : Nat} {l : List Int} {e : Int} (h : Rd w0 W g l e) (hb : Below W.heap.size W W1) : Rd w0 W1 g l e := by
  obtain ⟨A, c, h1, h2⟩ := h
  exact ⟨A, c, blk_below h1 hb, h2⟩
/-- What a call does to a reader. -/
structure RdW (w0 w w' : World) (g : Nat) (l : List Int) (e : Int) : Prop where
  rd : Rd w0 w' g l e
  below : Below w0.heap.size w0 w'
  keep : KeepBut w w' g none
theorem RdW.refl {w0 w : World} {g : Nat} {l : List Int} {e : Int} (h : Rd w0 w g l e) (hB : Below w0.heap.size w0 w) : RdW w0 w w g l e := ⟨h, hB, KeepBut.refl _ _ _⟩
theorem RdW.drawn {w0 w w1 w2 : World} {g : Nat} {l : List Int} {e : Int} (h : RdW w0 w w1 g l e) (hd : Drawn0 w1 w2) : RdW w0 w w2 g l e :=
  ⟨h.rd.below hd.below, h.below.trans (hd.below.mono h.below.size), h.keep.trans (KeepBut.of_below hd.below g none) (.inl rfl)⟩
theorem RdW.trans {w0 w w1 w2 : World} {g : Nat} {l l2 : List Int} {e e2 : Int} (h : RdW w0 w w1 g l e) (k : RdW w0 w1 w2 g l2 e2) : RdW w0 w w2 g l2 e2 :=
  ⟨k.rd, k.below, h.keep.trans k.keep (.inl rfl)⟩
theorem RdW.err {w0 w w1 : World} {g : Nat} {l : List Int} {e : Int} (h : RdW w0 w w1 g l e) (e2 : Int) : RdW w0 w (w1.setCell ⟨g, 1, none⟩ (.int .i64 e2)) g l e2 := by
  obtain ⟨A, c, h1, h2⟩ := h.rd
  exact ⟨⟨A, c, by simpa using blk_set h1 1 (.int .i64 e2), h2⟩, h.below.setCell h2.1 _, h.keep.set_ 1 _⟩
theorem RdW.left {w0 w w1 : World} {g : Nat} {l l2 : List Int} {e : Int} (h : RdW w0 w w1 g l e) {A : Option Addr} {n c : Nat} (hn : n = l2.length) (hC : Kd.C (Kd.int .u8) w0 A l2.length l2) (hc : l2.length ≤ c) : RdW w0 w (w1.setCell ⟨g, 0, none⟩ (.slice A n c)) g l2 e := by
  subst hn
  obtain ⟨A1, c1, h1, h2⟩ := h.rd
  exact ⟨⟨A, c, by simpa using blk_set h1 0 (.slice A l2.length c), h2.1, hC, hc⟩, h.below.setCell h2.1 _, h.keep.set_ 0 _⟩
theorem wrap7 (k : Nat) (h : k ≤ 9) : 0 ≤ wrap64 (7 * (k : Int)) := by
  have h1 : 7 * (k : Int) ≤ 63 ∧ 0 ≤ 7 * (k : Int) := by omega
  generalize 7 * (k : Int) = e at h1 ⊢
  unfold wrap64
  omega
/-- What a byte adds to a number. -/
def lookN (n c i : Int) : Int := Go.bits .or .u64 n (shl .u64 (IntKind.u64.wrap (Go.bits .and .u8 c 127)) (wrap64 (7 * i)))
/-- What look tells of bytes, from byte i on. -/
def lookL : List Int → Nat → Int → Int × Int × Int
  | [], _, _ => (0, 0, 4)
  | c :: l, i, n =>
    if ((decide ((0 : Int) < (i : Int)) && c == 0) || ((i : Int) == 9 && decide (1 < c))) = true then (0, 0, 3)
    else if decide (c < 128) = true then (lookN n c i, ((i + 1 : Nat) : Int), 0) else lookL l (i + 1) (lookN n c i)
set_option maxHeartbeats 4000000 in
set_option maxRecDepth 100000 in
theorem wire_Reader_look.own0 (g : Nat) (f0 : List Int) (f1 : Int) (w0 w : World) (hI : Rd w0 w g f0 f1) (hB : Below w0.heap.size w0 w) :
    Calls Try.prog 80 #[.pointer (some ⟨g, 0, none⟩)] w fun e w' => e = .returned (.tuple #[.int .u64 (lookL f0 0 0).1, .int .i64 (lookL f0 0 0).2.1, .int .i64 (lookL f0 0 0).2.2]) ∧ Drawn0 w w' := by
  have hu := Try.underlying114
  obtain ⟨A, c, hc, hC, hb, hg, hc0, hc1, hf0, hf1⟩ := hI.facts
  have HC := Aside0.mk hC
  have HB := Aside0.mk hB
  clear hb hg hC hB hc hI hf0 hf1
  go_enter Try.func80, Try.ntmps80
  go_wp2
  go_loopg [2, 12] f0.length (fun gg s2 s12 wr => ∃ (kk : Nat) (n : Int), Aside0 (kk ≤ f0.length ∧ kk ≤ 9) ∧ Aside0 (f0.length - kk ≤ gg) ∧ s2 = .int .u64 n ∧ s12 = .int .i64 (kk : Int) ∧ Aside0 (lookL (f0.drop kk) kk n = lookL f0 0 0) ∧ Aside0 (Drawn0 w wr))
  case atStart => exact ⟨0, 0, ⟨by omega, by omega⟩, ⟨by omega⟩, rfl, rfl, ⟨rfl⟩, ⟨by repeat (first | exact Drawn0.refl _ | apply Drawn0.step)⟩⟩
  case round =>
    obtain ⟨kk, n, HK, HG, rfl, rfl, HL, HD⟩ := hrel
    by_cases hlt : kk < f0.length
    · have hltz : (kk : Int) < (f0.length : Int) := by omega
      have hkz : 0 ≤ (kk : Int) := by omega
      have b1 : decide ((kk : Int) < (f0.length : Int)) = true := decide_eq_true hltz
      obtain ⟨ad, rfl, hx⟩ := Kd.at_int HC.out (kk : Int) hkz hltz
      replace hx := pw_cell_below (HB.out.trans (HD.out.below.mono HB.out.size)) hx
      have HX : Aside0 (f0.drop kk = rd f0 (kk : Int) :: f0.drop (kk + 1)) := ⟨by
        rw [List.drop_eq_getElem_cons hlt, show rd f0 (kk : Int) = f0[kk] by simp [rd, hlt]]⟩
      have hl := HL.out
      rw [HX.out, lookL] at hl
      have HL2 := Aside0.mk hl
      clear hl HX HL
      have EW : Aside0 (wrap64 ((kk : Int) + 1) = ((kk + 1 : Nat) : Int)) := ⟨by have := HK.out.2; unfold wrap64; omega⟩
      obtain ⟨j, hj⟩ : ∃ j : Int, wrap64 (7 * (kk : Int)) = j := ⟨_, rfl⟩
      have hj0 : 0 ≤ j := by rw [← hj]; exact wrap7 kk HK.out.2
      have hjw : IntKind.i64.wrap (7 * (kk : Int)) = j := (i64_w _).trans hj
      have hj0' := eq_true hj0
      have hj1 : decide (0 ≤ j) = true := decide_eq_true hj0
      have HLT := Aside0.mk hlt
      generalize rd f0 (kk : Int) = x at hx HL2
      obtain ⟨y, hy⟩ : ∃ y : Int, shl .u64 (IntKind.u64.wrap (Go.bits .and .u8 x 127)) j = y := ⟨_, rfl⟩
      have hy_ : IntKind.u64.wrap (IntKind.u64.wrap (Go.bits .and .u8 x 127) * 2 ^ min j.toNat 64) = y := hy
      have hyz : j ≤ 64 → IntKind.u64.wrap (IntKind.u64.wrap (Go.bits .and .u8 x 127) * 2 ^ j.toNat) = y := shl_small hy
      have EN : Aside0 (lookN n x (kk : Int) = Go.bits .or .u64 n y) := ⟨by unfold lookN; rw [hj, hy]⟩
      have HJ := Aside0.mk hj
      have HY := Aside0.mk hy
      clear hlt hj0 hj hy
      replace hkz := eq_true hkz
      replace hltz := eq_true hltz
      obtain ⟨i, hi⟩ : ∃ i : Int, (kk : Int) = i := ⟨_, rfl⟩
      rw [hi] at b1 hx hkz hltz hjw HL2 EN
      rw [hi] at EW
      rw [hi]
      have HI := Aside0.mk hi
      clear hi
      obtain ⟨B1, h1⟩ : ∃ b, decide ((0 : Int) < i) = b := ⟨_, rfl⟩
      obtain ⟨B2, h2⟩ : ∃ b, (x == 0) = b := ⟨_, rfl⟩
      obtain ⟨B3, h3⟩ : ∃ b, (i == 9) = b := ⟨_, rfl⟩
      obtain ⟨B4, h4⟩ : ∃ b, decide (1 < x) = b := ⟨_, rfl⟩
      obtain ⟨B5, h5⟩ : ∃ b, decide (x < 128) = b := ⟨_, rfl⟩
      have hl := HL2.out
      rw [h1, h2, h3, h4, h5] at hl
      have HL := Aside0.mk hl
      clear HL2 hl
      by_cases hbad : ((B1 && B2) || (B3 && B4)) = true
      · have hr : Aside0 (lookL f0 0 0 = (0, 0, 3)) := ⟨by have h := HL.out; rw [if_pos hbad] at h; exact h.symm⟩
        clear h5
        cases B1 <;> cases B2 <;> cases B3 <;> cases B4 <;> first | (exact absurd hbad (by decide)) | (clear hbad; go_wp2; all_goals go_ret3; all_goals exact ⟨by rw [hr.out] <;> rfl, by repeat (first | exact HD.out | apply Drawn0.step)⟩)
      · cases B5 with
        | true =>
          have hr : Aside0 (lookL f0 0 0 = (Go.bits .or .u64 n y, ((kk + 1 : Nat) : Int), 0)) := ⟨by have h := HL.out; rw [if_neg hbad, if_pos rfl, EN.out] at h; exact h.symm⟩
          cases B1 <;> cases B2 <;> cases B3 <;> cases B4 <;> first | (exact absurd rfl hbad) | (clear hbad; go_wp2; go_ret3; exact ⟨by rw [hr.out, ← EW.out] <;> rfl, by repeat (first | exact HD.out | apply Drawn0.step)⟩)
        | false =>
          have hr : Aside0 (lookL (f0.drop (kk + 1)) (kk + 1) (Go.bits .or .u64 n y) = lookL f0 0 0) := ⟨by have h := HL.out; rw [if_neg hbad, if_neg (by decide), EN.out] at h; exact h⟩
          have K1 : Aside0 (kk + 1 ≤ f0.length ∧ kk + 1 ≤ 9) := ⟨by have := HLT.out; omega, by
            have h := HK.out.2
            have h8 := of_decide_eq_false h5
            by_cases h9' : kk = 9
            · exfalso
              have q3 : B3 = true := by rw [← h3, ← HI.out, h9']; rfl
              have q4 : B4 = false := by
                cases hB : B4 with
                | false => rfl
                | true => exfalso; apply hbad; rw [q3, hB]; simp
              rw [← h4] at q4
              have q5 := of_decide_eq_false q4
              omega
            · omega⟩
          have K2 : Aside0 (f0.length - (kk + 1) ≤ gk) := ⟨by have := HG.out; have := HLT.out; omega⟩
          cases B1 <;> cases B2 <;> cases B3 <;> cases B4 <;> first | (exact absurd rfl hbad) | (clear hbad; go_wp2; go_roundg (f0.length - (kk + 1)); (case measure => have := HG.out; have := HLT.out; omega); (case rel => exact ⟨kk + 1, Go.bits .or .u64 n y, K1, ⟨Nat.le_refl _⟩, rfl, congrArg _ EW.out, hr, ⟨by repeat (first | exact HD.out | apply Drawn0.step)⟩⟩))
    · have b1 : decide ((kk : Int) < (f0.length : Int)) = false := decide_eq_false (by omega)
      have hr : Aside0 (lookL f0 0 0 = (0, 0, 4)) := ⟨by have h := HL.out; rw [List.drop_eq_nil_of_le (by omega)] at h; exact h.symm⟩
      clear hlt
      generalize (kk : Int) = i at b1 ⊢
      go_wp2
      go_ret3
      exact ⟨by rw [hr.out] <;> rfl, by repeat (first | exact HD.out | apply Drawn0.step)⟩
theorem wire_Reader_look.own {g : Nat} {l : List Int} {f1 : Int} {w0 w : World} (hI : Rd w0 w g l f1) (hB : Below w0.heap.size w0 w) {n s e : Int} (h : lookL l 0 0 = (n, s, e)) :
    Calls Try.prog 80 #[.pointer (some ⟨g, 0, none⟩)] w fun en w' => en = .returned (.tuple #[.int .u64 n, .int .i64 s, .int .i64 e]) ∧ Drawn0 w w' := by
  have h1 := wire_Reader_look.own0 g l f1 w0 w hI hB
  rw [h] at h1
  exact h1
set_option maxHeartbeats 4000000 in
set_option maxRecDepth 100000 in
theorem wire_Reader_Err.own {g : Nat} {l : List Int} {f1 : Int} {w0 w : World} (hI : Rd w0 w g l f1) :
    Calls Try.prog 68 #[.pointer (some ⟨g, 0, none⟩)] w fun en w' => en = .returned (.int .i64 f1) ∧ Drawn0 w w' := by
  obtain ⟨A, c, hc, hC, hb, hg, hc0, hc1, hf0, hf1⟩ := hI.facts
  clear hc hC hb hg hI hc0 hf0 hf1
  go_enter Try.func68, Try.ntmps68
  go_wp2
  go_ret
  exact ⟨rfl, by repeat (first | exact Drawn0.refl _ | apply Drawn0.step)⟩
set_option maxHeartbeats 4000000 in
set_option maxRecDepth 100000 in
theorem wire_Reader_Left.own {g : Nat} {l : List Int} {f1 : Int} {w0 w : World} (hI : Rd w0 w g l f1) :
    Calls Try.prog 67 #[.pointer (some ⟨g, 0, none⟩)] w fun en w' => en = .returned (.int .i64 (l.length : Int)) ∧ Drawn0 w w' := by
  obtain ⟨A, c, hc, hC, hb, hg, hc0, hc1, hf0, hf1⟩ := hI.facts
  clear hc hC hb hg hI hc1 hf0 hf1
  go_enter Try.func67, Try.ntmps67
  go_wp2
  go_ret
  exact ⟨rfl, by repeat (first | exact Drawn0.refl _ | apply Drawn0.step)⟩
set_option maxHeartbeats 4000000 in
set_option maxRecDepth 100000 in
theorem wire_Reader_Fail.own {g : Nat} {l : List Int} {f1 : Int} {w0 w : World} (e2 : Int) (hI : Rd w0 w g l f1) (hB : Below w0.heap.size w0 w) :
    Calls Try.prog 65 #[.pointer (some ⟨g, 0, none⟩), .int .i64 e2] w fun en w' => en = .returned (.tuple #[]) ∧ RdW w0 w w' g l (if f1 = 0 then e2 else f1) := by
  obtain ⟨A, c, hc, hC, hb, hg, hc0, hc1, hf0, hf1⟩ := hI.facts
  have HW := Aside0.mk (RdW.refl hI hB)
  clear hc hC hb hg hI hB hc0 hf0
  by_cases h0 : f1 = 0
  · rw [if_pos h0]
    have b0 : (f1 == 0) = true := beq_iff_eq.mpr h0
    clear h0
    go_enter Try.func65, Try.ntmps65
    go_wp2
    all_goals (first | go_end0 | ((try simp only [Exit.inBlock, Exit.then]); refine bodyPost_ret (results_none rfl _ _ _) rfl ?_))
    all_goals exact ⟨rfl, (HW.out.drawn (by repeat (first | exact Drawn0.refl _ | apply Drawn0.step))).err e2⟩
  · rw [if_neg h0]
    have b0 : (f1 == 0) = false := beq_eq_false_iff_ne.mpr h0
    clear h0
    go_enter Try.func65, Try.ntmps65
    go_wp2
    all_goals (first | go_end0 | ((try simp only [Exit.inBlock, Exit.then]); refine bodyPost_ret (results_none rfl _ _ _) rfl ?_))
    all_goals exact ⟨rfl, HW.out.drawn (by repeat (first | exact Drawn0.refl _ | apply Drawn0.step))⟩
end Go.Proofs.Ytogdooclldoomaa.F
