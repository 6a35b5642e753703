-- Cut for this claim by a program (wip/prune.py) out of the texts that its bench laid or wrote
import Derived.Test.YtmfacoccojenlaaDoorReg
namespace Go.Proofs.YtmfacoccojenlaaDoor.F
open Go.RowKit Go.Proofs.YtmfacoccojenlaaDoorW.PrintWords Go.Proofs.YtmfacoccojenlaaDoorW.PrintLast Go.Proofs.YtmfacoccojenlaaDoorW.PrintMore
set_option linter.unusedSimpArgs false
set_option linter.unusedVariables false
open Go.Proofs.YtmfacoccojenlaaDoor.N (ofN Bits Bits.zero fz cnt)
set_option maxHeartbeats 4000000 in
set_option maxRecDepth 100000 in
theorem slots_Slots_Free.own {base : Nat} {w : World} {g : Nat} {v : Value} {ws : List Nat} {l : List Bool} (h : Sl base w g v ws l) (HT : Aside0 (Tab w)) :
    Calls Tryd.prog 11 #[.pointer (some ⟨g, 0, none⟩)] w fun e w' => e = .returned (.int .i64 (if fz l = l.length then -1 else (fz l : Int))) ∧ Drawn0 w w' := by
  have hu := Tryd.underlying43
  by_cases hf : fz l = l.length
  · rw [if_pos hf]
    obtain ⟨A, c, rfl, hc, hC, h0, h1, h2⟩ := h.facts
    have e : cnt l = l.length := (N.cnt_full l).2 hf
    have b0 : ((cnt l : Int) == (l.length : Int)) = true := beq_iff_eq.mpr (by omega)
    clear h hc hC h0 hf e
    go_enter Tryd.func11, Tryd.ntmps11
    go_wp2
    repeat (go_quiet (fail);try go_wp2)
    go_ret
    exact ⟨rfl, by repeat (first | exact Drawn0.refl _ | apply Drawn0.step)⟩
  · rw [if_neg hf]
    obtain ⟨A, c, rfl, hc, hC, h0, h1, h2⟩ := h.facts
    have e : cnt l ≠ l.length := fun q => hf ((N.cnt_full l).1 q)
    have b0 : ((cnt l : Int) == (l.length : Int)) = false := beq_eq_false_iff_ne.mpr (by omega)
    have HB := Aside0.mk h.2.2.2.1
    have HF := Aside0.mk hf
    have HC := Aside0.mk hC
    have HW : Aside0 (ws.length ≤ 64) := ⟨by have := h.2.2.2.1.len; have := h.2.2.2.2; omega⟩
    have hL : (ofN ws).length = ws.length := N.ofN_length ws
    have HL := Aside0.mk hL
    clear h hc hC hf e
    go_enter Tryd.func11, Tryd.ntmps11
    go_wp2
    repeat (go_quiet (fail);try go_wp2)
    go_loopg [23] (ws.length + 1) (fun kq v23 W => ∃ (j : Nat), j ≤ ws.length ∧ ws.length - j < kq ∧ v23 = .int .i64 (j : Int) ∧ Aside0 (∀ i, i < j → ws.getD i 0 = 18446744073709551615) ∧ Drawn0 w W)
    case atStart => exact ⟨0, Nat.zero_le _, by omega, rfl, ⟨fun i h => absurd h (Nat.not_lt_zero _)⟩, by repeat (first | exact Drawn0.refl _ | apply Drawn0.step)⟩
    case round =>
      obtain ⟨j, hj0, hj1, rfl, HA, HD⟩ := hrel
      cases gk with
      | zero => exact absurd hj1 (by omega)
      | succ gk =>
        by_cases hlt : j < ws.length
        · obtain ⟨nd, rfl⟩ := HD
          obtain ⟨ad, rfl, hx⟩ := Kd.at_int HC.out (j : Int) (by omega) (by omega)
          rw [N.rd_ofN, Int.toNat_natCast] at hx
          have hs := HB.out.small j
          have HWJ : Aside0 (wrap64 ((j : Int) + 1) = ((j + 1 : Nat) : Int)) := ⟨by have := HW.out; unfold wrap64; omega⟩
          have c1 : decide ((j : Int) < (ws.length : Int)) = true := decide_eq_true (by omega)
          have c2 : decide (j < ws.length) = true := decide_eq_true hlt
          have p1 : decide (0 ≤ (j : Int)) = true := decide_eq_true (by omega)
          by_cases ho : ws.getD j 0 = 18446744073709551615
          · have HA2 : Aside0 (∀ i, i < j + 1 → ws.getD i 0 = 18446744073709551615) := ⟨fun i hi => by
              rcases Nat.lt_or_ge i j with q | q
              · exact HA.out i q
              · rw [show i = j from by omega]; exact ho⟩
            rw [ho] at hx
            clear hs HA
            go_wp2
            go_roundg gk
            case measure => omega
            case rel => exact ⟨j + 1, by omega, by omega, by rw [HWJ.out], HA2, by repeat (first | exact ⟨nd, rfl⟩ | apply Drawn0.step)⟩
          · have HR := Aside0.mk (HB.out.free HA.out ho)
            have hz0 := N.comp_ne hs ho
            have hz1 : 18446744073709551615 ^^^ ws.getD j 0 < 18446744073709551616 := Nat.xor_lt_two_pow (n := 64) (by decide) hs
            have htz := Aside0.mk (N.tz_eq _ hz0 hz1)
            have hxo := N.xor64 18446744073709551615 (ws.getD j 0) (by decide) hs
            rw [show ((18446744073709551615 : Nat) : Int) = 18446744073709551615 from rfl] at hxo
            obtain ⟨hk, _, _⟩ := N.ctz_is _ 0 hz0 hz1
            have b1 : (((ws.getD j 0 : Nat) : Int) != 18446744073709551615) = true := by
              rw [bne_iff_ne]; intro q; exact ho (by omega)
            generalize 18446744073709551615 ^^^ ws.getD j 0 = z at hxo htz HR hk
            generalize Go.Lib.ctz 64 z = t at htz HR hk
            generalize ws.getD j 0 = y at *
            have HJ : Aside0 (j ≤ 64) := ⟨by have := HW.out; omega⟩
            have h64 : j ≤ 64 := HJ.out
            have hxo2 : Go.bits BinOp.xor IntKind.u64 (if IntKind.u64.signed = true then -1 else IntKind.u64.max) (y : Int) = (z : Int) := hxo
            clear ho hs hz0 hz1 hxo
            go_wp2_with (first
              | (go_at_call 17; (with_reducible refine (bits_TrailingZeros64.calls (z : Int) (t : Int) _ htz.out (Tab.later HT (by repeat (first | exact Below.refl _ _ | apply pw_below_drewN)))).mono ?_); rintro e w2 ⟨rfl, ⟨nd2, rfl⟩⟩))
            go_ret
            exact ⟨by rw [HR.out]; simp, (Drawn0.refl w).step (nd + nd2)⟩
        · exfalso
          exact HF.out (HB.out.none_ (fun i hi => HA.out i (by omega)))
set_option maxHeartbeats 4000000 in
set_option maxRecDepth 100000 in
theorem slots_Slots_Take.full {base : Nat} {w : World} {g : Nat} {v : Value} {ws : List Nat} {l : List Bool} (h : Sl base w g v ws l) (hf : fz l = l.length) (HT : Aside0 (Tab w)) :
    Calls Tryd.prog 8 #[.pointer (some ⟨g, 0, none⟩)] w fun e w' => e = .returned (.tuple #[.int .i64 (-1), .int .i64 9]) ∧ Drawn0 w w' := by
  have hu := Tryd.underlying43
  have HF := Aside0.mk (slots_Slots_Free.own h HT)
  rw [if_pos hf] at HF
  clear h hf
  go_enter Tryd.func8, Tryd.ntmps8
  go_wp2_with (go_at_call 11; refine HF.out.mono ?_; rintro e w1 ⟨rfl, ⟨nd, rfl⟩⟩)
  go_ret2
  exact ⟨rfl, (Drawn0.refl w).step nd⟩
theorem Sl.put {base : Nat} {W : World} {g gb cb d : Nat} {ws : List Nat} {l l2 : List Bool} {y : Nat} (h : Sl base W g (.slice (some ⟨gb, 0, none⟩) (ofN ws).length cb) ws l) (hne : g ≠ gb) (hb : Bits (ws.set d y) l2) (hl : l2.length = l.length) :
    Sl base ((W.setCell ⟨gb, d, none⟩ (.int .u64 (y : Int))).setCell ⟨g, 2, none⟩ (.int .i64 (cnt l2 : Int))) g (.slice (some ⟨gb, 0, none⟩) (ofN ws).length cb) (ws.set d y) l2 := by
  obtain ⟨h1, h2, h3, h4, h5⟩ := h
  have p := Kd.R_putg (enc := Value.int .u64) (h1 := fun _ => rfl) h3 (d : Int) (y : Int)
  rw [Int.toNat_natCast, N.ofN_set] at p
  have hblk := blk_grown h1 p.2 (by intro e; injection e with e; exact hne e)
  refine ⟨?_, h2, ?_, hb, by rw [hl]; exact h5⟩
  · rw [hl]; simpa using blk_set hblk 2 (.int .i64 (cnt l2 : Int))
  · exact Kd.R_set p.1 hblk (by simp [Kd.int, Kd.scalar]) 2 _
theorem Sl.blk {base : Nat} {W : World} {g gb cb d : Nat} {ws : List Nat} {l : List Bool} {y : Nat} (h : Sl base W g (.slice (some ⟨gb, 0, none⟩) (ofN ws).length cb) ws l) (hne : g ≠ gb) :
    (W.setCell ⟨gb, d, none⟩ (.int .u64 (y : Int))).heap[g]? = some (.cells #[.slice (some ⟨gb, 0, none⟩) (ofN ws).length cb, .int .i64 (l.length : Int), .int .i64 (cnt l : Int)] 43 (0, 0)) := by
  have p := Kd.R_putg (enc := Value.int .u64) (h1 := fun _ => rfl) h.2.2.1 (d : Int) (y : Int)
  rw [Int.toNat_natCast] at p
  exact blk_grown h.1 p.2 (by intro e; injection e with e; exact hne e)
theorem Sl.keep {base : Nat} {w W : World} {g gb cb d : Nat} {ws : List Nat} {l : List Bool} {y : Nat} {z : Value} (h : Sl base W g (.slice (some ⟨gb, 0, none⟩) (ofN ws).length cb) ws l) (hgb : base ≤ gb) (hw : Below w.heap.size w W) (hb : base ≤ w.heap.size) :
    KeepBut w ((W.setCell ⟨gb, d, none⟩ (.int .u64 (y : Int))).setCell ⟨g, 2, none⟩ z) g (Value.slice (some ⟨gb, 0, none⟩) (ofN ws).length cb).ownBlock ∧ Below base w ((W.setCell ⟨gb, d, none⟩ (.int .u64 (y : Int))).setCell ⟨g, 2, none⟩ z) := by
  have p := Kd.R_putg (enc := Value.int .u64) (h1 := fun _ => rfl) h.2.2.1 (d : Int) (y : Int)
  rw [Int.toNat_natCast] at p
  exact ⟨((KeepBut.of_below hw g _).trans (KeepBut.of_grown p.2 g) (.inl rfl)).set_ 2 _, ((hw.mono hb).setCell (p := ⟨gb, d, none⟩) hgb _).setCell (p := ⟨g, 2, none⟩) h.2.1 _⟩
set_option maxHeartbeats 4000000 in
set_option maxRecDepth 100000 in
theorem slots_Slots_Take.own {base : Nat} {w : World} {g : Nat} {v : Value} {ws : List Nat} {l : List Bool} (h : Sl base w g v ws l) (hf : fz l ≠ l.length) (HT : Aside0 (Tab w)) :
    Calls Tryd.prog 8 #[.pointer (some ⟨g, 0, none⟩)] w fun e w' => e = .returned (.tuple #[.int .i64 (fz l : Int), .int .i64 0]) ∧ ∃ ws', Sl base w' g v ws' (l.set (fz l) true) ∧ KeepBut w w' g v.ownBlock ∧ Below base w w' := by
  have hu := Tryd.underlying43
  have HF := Aside0.mk (slots_Slots_Free.own h HT)
  rw [if_neg hf] at HF
  have hi : fz l < l.length := by have := N.fz_le l; omega
  have hcnt := N.cnt_set_true l (fz l) hi (N.fz_false l)
  have hbits := h.2.2.2.1.take hi
  generalize fz l = p at HF hi hcnt hbits ⊢
  obtain ⟨gb, cb, ev, hgb, hgl, cells, hcell⟩ := Kd.R_form h.2.2.1 (by rw [N.ofN_length]; have := h.2.2.2.1.in_ hi; omega)
  subst ev
  have hne : g ≠ gb := by
    intro e
    subst e
    rw [h.1] at hcell
    injection hcell with hcell
    injection hcell with _ hcell
    exact absurd hcell (by decide)
  have hin := h.2.2.2.1.in_ hi
  have hL : (ofN ws).length = ws.length := N.ofN_length ws
  obtain ⟨hx, hfr⟩ := Kd.R_celln 0 h.2.2.1 ((p / 64 : Nat) : Int) (by omega) (by omega)
  rw [Int.toNat_natCast] at hx hfr
  rw [show rdOf (0 : Int) (ofN ws) ((p / 64 : Nat) : Int) = ((ws.getD (p / 64) 0 : Nat) : Int) from N.rd_ofN ws (p / 64)] at hx
  have hs := h.2.2.2.1.small (p / 64)
  have hr64 : p % 64 < 64 := Nat.mod_lt _ (by decide)
  have hor := bits_or_u64_nat (ws.getD (p / 64) 0) (2 ^ (p % 64)) hs (N.pow_lt64 hr64)
  rw [show ws.getD (p / 64) 0 ||| 2 ^ (p % 64) = N.orW (ws.getD (p / 64) 0) (p % 64) from rfl] at hor
  have hsh := N.shl_one (p % 64) hr64
  have H := Aside0.mk h
  have h0 := (blk_cell h.1 0).trans rfl
  have h2 := (blk_cell h.1 2).trans rfl
  have hf2 := blk_frozen h.1 2
  have q3 : Int.tdiv (p : Int) 64 = ((p / 64 : Nat) : Int) := by rw [Int.tdiv_eq_ediv_of_nonneg (by omega)]; rfl
  have q4 : Int.tmod (p : Int) 64 = ((p % 64 : Nat) : Int) := by rw [Int.tmod_eq_emod_of_nonneg (by omega)]; rfl
  have q5 : p / 64 < (ofN ws).length := by omega
  have q6 : p / 64 ≤ 64 := by have := h.2.2.2.2; omega
  have q8 : p ≤ 4096 := by have := h.2.2.2.2; omega
  have q9 : cnt l ≤ 4096 := by have := N.cnt_le l; have := h.2.2.2.2; omega
  have HBI := Aside0.mk hbits
  have HCN := Aside0.mk hcnt
  have HNE := Aside0.mk hne
  have HGB := Aside0.mk hgb
  have HBS : Aside0 (base ≤ w.heap.size) := ⟨Nat.le_trans h.2.1 (Nat.le_of_lt (blk_lt h.1))⟩
  have HQ8 := Aside0.mk q8
  clear hi hin hL hs hcell hbits hcnt hgb hne h hf hgl
  generalize p / 64 = d at *
  generalize p % 64 = r at *
  generalize hy2 : N.orW (ws.getD d 0) r = y2 at HBI hor
  generalize ws.getD d 0 = y at *
  have hsh2 : IntKind.u64.wrap ((2 : Int) ^ r) = ((2 ^ r : Nat) : Int) := by
    rw [show (2 : Int) ^ r = ((2 ^ r : Nat) : Int) from by rw [Int.natCast_pow]; rfl]
    exact N.u64n _ (N.pow_lt64 hr64)
  have hwd : wrap64 ((d : Nat) : Int) = ((d : Nat) : Int) := by unfold wrap64; omega
  have HWD := Aside0.mk hwd
  clear hwd
  generalize hpw : 2 ^ r = b2 at hor hsh hsh2
  clear hy2 hpw
  obtain ⟨x, hx0⟩ : ∃ x : Int, (p : Int) = x := ⟨_, rfl⟩
  have HX := Aside0.mk hx0
  have z0 : decide (x < 0) = false := decide_eq_false (by omega)
  rw [hx0] at q3 q4
  simp only [hx0] at HF ⊢
  have z1 : decide ((d : Int) < ((ofN ws).length : Int)) = true := decide_eq_true (by omega)
  have z2 : decide (0 ≤ (d : Int)) = true := decide_eq_true (by omega)
  have z3 : (d : Int) < ((ofN ws).length : Int) := by omega
  clear hx0 q8
  go_enter Tryd.func8, Tryd.ntmps8
  go_wp2_with (go_at_call 11; refine HF.out.mono ?_; rintro e w1 ⟨rfl, ⟨nd, rfl⟩⟩)
  have hwd := HWD.out
  have z4 : (0 : Int) ≤ (d : Int) := of_decide_eq_true z2
  have HC0 : Aside0 ((w.drewN nd).drew.cell? ⟨g, 0, none⟩ = some (.slice (some ⟨gb, 0, none⟩) (ofN ws).length cb)) := ⟨h0⟩
  have HC1 : Aside0 ((w.drewN nd).drew.cell? ⟨gb, d, none⟩ = some (.int .u64 (y : Int))) := ⟨hx⟩
  have HFR : Aside0 ((w.drewN nd).drew.frozen? ⟨gb, d, none⟩ = false) := ⟨hfr⟩
  refine start_ (n := 14) (S := fun w' => w'.cell? ⟨g, 0, none⟩ = some (.slice (some ⟨gb, 0, none⟩) (ofN ws).length cb) ∧ w'.cell? ⟨gb, d, none⟩ = some (.int .u64 (y : Int)) ∧ w'.frozen? ⟨gb, d, none⟩ = false) (ds := [13]) #[false, false, false, false, false, false, false, false, false, false, false, false, false, false] (by kernel_rfl) rfl rfl ⟨HC0.out, HC1.out, HFR.out⟩ (fun hHeld => ?_)
  refine pure_ (i := 0) (N := some 11) (v := ?_) (a' := ?_) #[true, false, false, false, false, false, false, false, false, false, false, false, false, false] rfl rfl (by kernel_rfl) (fun _ _ _ h => h) (Or.inl ⟨by rfl, ?_⟩) ?_ ?_
  rotate_left
  · intro w'
    go_simp
    with_reducible rfl
  rotate_left
  · simp only [Act.put, List.setIfInBounds_toArray, List.set_cons_zero, List.set_cons_succ, i64_w, i32_w]
    rfl
  refine pure_ (i := 1) (N := some 12) (v := ?_) (a' := ?_) #[true, true, false, false, false, false, false, false, false, false, false, false, false, false] rfl rfl (by kernel_rfl) (fun _ _ _ h => h) (Or.inl ⟨by rfl, ?_⟩) ?_ ?_
  rotate_left
  · intro w'
    go_simp
    with_reducible rfl
  rotate_left
  · simp only [Act.put, List.setIfInBounds_toArray, List.set_cons_zero, List.set_cons_succ, i64_w, i32_w]
    rfl
  refine pure_ (i := 2) (N := some 13) (v := ?_) (a' := ?_) #[true, true, true, false, false, false, false, false, false, false, false, false, false, false] rfl rfl (by kernel_rfl) (fun _ _ _ h => h) (Or.inl ⟨by rfl, ?_⟩) ?_ ?_
  rotate_left
  · intro w'
    go_simp
    with_reducible rfl
  rotate_left
  · simp only [Act.put, List.setIfInBounds_toArray, List.set_cons_zero, List.set_cons_succ, i64_w, i32_w]
    rfl
  refine pure_ (i := 4) (N := some 15) (v := ?_) (a' := ?_) #[true, true, true, false, true, false, false, false, false, false, false, false, false, false] rfl rfl (by kernel_rfl) (fun _ _ _ h => h) (Or.inl ⟨by rfl, ?_⟩) ?_ ?_
  rotate_left
  · intro w'
    go_simp
    with_reducible rfl
  rotate_left
  · simp only [Act.put, List.setIfInBounds_toArray, List.set_cons_zero, List.set_cons_succ, i64_w, i32_w]
    rfl
  refine pure_ (i := 5) (N := some 16) (v := ?_) (a' := ?_) #[true, true, true, false, true, true, false, false, false, false, false, false, false, false] rfl rfl (by kernel_rfl) (fun _ _ _ h => h) (Or.inl ⟨by rfl, ?_⟩) ?_ ?_
  rotate_left
  · intro w'
    go_simp
    with_reducible rfl
  rotate_left
  · simp only [Act.put, List.setIfInBounds_toArray, List.set_cons_zero, List.set_cons_succ, i64_w, i32_w]
    rfl
  refine pure_ (i := 8) (N := some 19) (v := ?_) (a' := ?_) #[true, true, true, false, true, true, false, false, true, false, false, false, false, false] rfl rfl (by kernel_rfl) (fun _ _ _ h => h) (Or.inl ⟨by rfl, ?_⟩) ?_ ?_
  rotate_left
  · intro w'
    go_simp
    with_reducible rfl
  rotate_left
  · simp only [Act.put, List.setIfInBounds_toArray, List.set_cons_zero, List.set_cons_succ, i64_w, i32_w]
    rfl
  refine pure_ (i := 9) (N := some 20) (v := ?_) (a' := ?_) #[true, true, true, false, true, true, false, false, true, true, false, false, false, false] rfl rfl (by kernel_rfl) (fun _ _ _ h => h) (Or.inl ⟨by rfl, ?_⟩) ?_ ?_
  rotate_left
  · intro w'
    go_simp
    with_reducible rfl
  rotate_left
  · simp only [Act.put, List.setIfInBounds_toArray, List.set_cons_zero, List.set_cons_succ, i64_w, i32_w]
    rfl
  refine pure_ (i := 10) (N := some 21) (v := ?_) (a' := ?_) #[true, true, true, false, true, true, false, false, true, true, true, false, false, false] rfl rfl (by kernel_rfl) (fun _ _ _ h => h) (Or.inl ⟨by rfl, ?_⟩) ?_ ?_
  rotate_left
  · intro w'
    go_simp
    with_reducible rfl
  rotate_left
  · simp only [Act.put, List.setIfInBounds_toArray, List.set_cons_zero, List.set_cons_succ, i64_w, i32_w]
    rfl
  refine take_ (i := 3) (N := some 14) (v := ?_) (a' := ?_) #[true, true, true, true, true, true, false, false, true, true, true, false, false, false] rfl rfl (by kernel_rfl) (fun _ _ _ h => h) (Or.inl ⟨by rfl, ?_⟩) hHeld ?_ ?_
  rotate_left
  · intro w' hw'
    have x1 := hw'.1
    go_simp
    with_reducible rfl
  rotate_left
  · simp only [Act.put, List.setIfInBounds_toArray, List.set_cons_zero, List.set_cons_succ, i64_w, i32_w]
    rfl
  refine pure_ (i := 6) (N := some 17) (v := ?_) (a' := ?_) #[true, true, true, true, true, true, true, false, true, true, true, false, false, false] rfl rfl (by kernel_rfl) (fun _ _ _ h => h) (Or.inl ⟨by rfl, ?_⟩) ?_ ?_
  rotate_left
  · intro w'
    go_simp
    with_reducible rfl
  rotate_left
  · simp only [Act.put, List.setIfInBounds_toArray, List.set_cons_zero, List.set_cons_succ, i64_w, i32_w]
    rfl
  refine take_ (i := 7) (N := some 18) (v := ?_) (a' := ?_) #[true, true, true, true, true, true, true, true, true, true, true, false, false, false] rfl rfl (by kernel_rfl) (fun _ _ _ h => h) (Or.inl ⟨by rfl, ?_⟩) hHeld ?_ ?_
  rotate_left
  · intro w' hw'
    have x1 := hw'.2.1
    go_simp
    with_reducible rfl
  rotate_left
  · simp only [Act.put, List.setIfInBounds_toArray, List.set_cons_zero, List.set_cons_succ, i64_w, i32_w]
    rfl
  refine pure_ (i := 11) (N := some 22) (v := ?_) (a' := ?_) #[true, true, true, true, true, true, true, true, true, true, true, true, false, false] rfl rfl (by kernel_rfl) (fun _ _ _ h => h) (Or.inl ⟨by rfl, ?_⟩) ?_ ?_
  rotate_left
  · intro w'
    go_simp
    with_reducible rfl
  rotate_left
  · simp only [Act.put, List.setIfInBounds_toArray, List.set_cons_zero, List.set_cons_succ, i64_w, i32_w]
    rfl
  refine pure_ (i := 12) (N := some 23) (v := ?_) (a' := ?_) #[true, true, true, true, true, true, true, true, true, true, true, true, true, false] rfl rfl (by kernel_rfl) (fun _ _ _ h => h) (Or.inl ⟨by rfl, ?_⟩) ?_ ?_
  rotate_left
  · intro w'
    go_simp
    with_reducible rfl
  rotate_left
  · simp only [Act.put, List.setIfInBounds_toArray, List.set_cons_zero, List.set_cons_succ, i64_w, i32_w]
    rfl
  refine last_ (i := 13) (N := none) #[true, true, true, true, true, true, true, true, true, true, true, true, true, true] rfl rfl (by kernel_rfl) (by decide) (fun K hK => ?_)
  refine skip_ (w1 := ?_) (by rfl) rfl ?_ ?_
  rotate_left
  · have x1 := hHeld.2.1
    have x2 := hHeld.2.2
    go_simp
    rfl
  refine hK.out _ _ ?_
  clear hK K
  refine done_ (by kernel_rfl) ?_
  have HW := Aside0.mk (H.out.below (pw_below_drewN (Below.refl _ _) (nd + 1)))
  have HBK := Aside0.mk (Sl.blk (d := d) (y := y2) HW.out HNE.out)
  have k2 := (blk_cell HBK.out 2).trans rfl
  have kf := blk_frozen HBK.out 2
  clear h2 hf2 h0 hx hfr hwd z4
  go_wp2
  go_ret2
  have hp := Sl.put (y := y2) (d := d) HW.out HNE.out HBI.out (by simp)
  rw [HCN.out, Int.natCast_add] at hp
  have hk := Sl.keep (z := .int .i64 ((cnt l : Int) + 1)) (y := y2) (d := d) HW.out HGB.out (pw_below_drewN (Below.refl w.heap.size w) (nd + 1)) HBS.out
  exact ⟨rfl, _, hp, hk.1, hk.2⟩
set_option maxHeartbeats 4000000 in
set_option maxRecDepth 100000 in
theorem slots_Slots_Give.no {base : Nat} {w : World} {g : Nat} {v : Value} {ws : List Nat} {l : List Bool} (i : Int) (h : Sl base w g v ws l) (hf : (decide (0 ≤ i) && l.getD i.toNat false) = false) :
    Calls Tryd.prog 9 #[.pointer (some ⟨g, 0, none⟩), .int .i64 i] w fun e w' => e = .returned (.int .i64 7) ∧ Drawn0 w w' := by
  have hu := Tryd.underlying43
  have HF := Aside0.mk (slots_Slots_Has.own i h)
  rw [hf] at HF
  clear h hf
  go_enter Tryd.func9, Tryd.ntmps9
  go_wp2_with (go_at_call 15; refine HF.out.mono ?_; rintro e w1 ⟨rfl, ⟨nd, rfl⟩⟩)
  go_ret
  exact ⟨rfl, (Drawn0.refl w).step nd⟩
set_option maxHeartbeats 4000000 in
set_option maxRecDepth 100000 in
theorem slots_Slots_Give.own {base : Nat} {w : World} {g : Nat} {v : Value} {ws : List Nat} {l : List Bool} (p : Nat) (h : Sl base w g v ws l) (hf : l.getD p false = true) :
    Calls Tryd.prog 9 #[.pointer (some ⟨g, 0, none⟩), .int .i64 (p : Int)] w fun e w' => e = .returned (.int .i64 0) ∧ ∃ ws', Sl base w' g v ws' (l.set p false) ∧ KeepBut w w' g v.ownBlock ∧ Below base w w' := by
  have hu := Tryd.underlying43
  have HF := Aside0.mk (slots_Slots_Has.own (p : Int) h)
  rw [decide_eq_true (show (0 : Int) ≤ (p : Int) by omega), Bool.true_and, Int.toNat_natCast, hf] at HF
  have hi : p < l.length := N.getD_lt hf
  have hcnt := N.cnt_set_false l p hf
  have hbits := h.2.2.2.1.give hi
  obtain ⟨gb, cb, ev, hgb, hgl, cells, hcell⟩ := Kd.R_form h.2.2.1 (by rw [N.ofN_length]; have := h.2.2.2.1.in_ hi; omega)
  subst ev
  have hne : g ≠ gb := by
    intro e
    subst e
    rw [h.1] at hcell
    injection hcell with hcell
    injection hcell with _ hcell
    exact absurd hcell (by decide)
  have hin := h.2.2.2.1.in_ hi
  have hL : (ofN ws).length = ws.length := N.ofN_length ws
  obtain ⟨hx, hfr⟩ := Kd.R_celln 0 h.2.2.1 ((p / 64 : Nat) : Int) (by omega) (by omega)
  rw [Int.toNat_natCast] at hx hfr
  rw [show rdOf (0 : Int) (ofN ws) ((p / 64 : Nat) : Int) = ((ws.getD (p / 64) 0 : Nat) : Int) from N.rd_ofN ws (p / 64)] at hx
  have hs := h.2.2.2.1.small (p / 64)
  have hr64 : p % 64 < 64 := Nat.mod_lt _ (by decide)
  have hor := N.andNot64 (ws.getD (p / 64) 0) (2 ^ (p % 64)) hs (N.pow_lt64 hr64)
  rw [show ws.getD (p / 64) 0 &&& (18446744073709551615 - 2 ^ (p % 64)) = N.clrW (ws.getD (p / 64) 0) (p % 64) from rfl] at hor
  have hsh := N.shl_one (p % 64) hr64
  have H := Aside0.mk h
  have h0 := (blk_cell h.1 0).trans rfl
  have h2 := (blk_cell h.1 2).trans rfl
  have hf2 := blk_frozen h.1 2
  have q3 : Int.tdiv (p : Int) 64 = ((p / 64 : Nat) : Int) := by rw [Int.tdiv_eq_ediv_of_nonneg (by omega)]; rfl
  have q4 : Int.tmod (p : Int) 64 = ((p % 64 : Nat) : Int) := by rw [Int.tmod_eq_emod_of_nonneg (by omega)]; rfl
  have q5 : p / 64 < (ofN ws).length := by omega
  have q6 : p / 64 ≤ 64 := by have := h.2.2.2.2; omega
  have q8 : p ≤ 4096 := by have := h.2.2.2.2; omega
  have q10 : 1 ≤ cnt l := by omega
  have q9 : cnt l ≤ 4096 := by have := N.cnt_le l; have := h.2.2.2.2; omega
  have HBI := Aside0.mk hbits
  have HCN := Aside0.mk hcnt
  have HNE := Aside0.mk hne
  have HGB := Aside0.mk hgb
  have HBS : Aside0 (base ≤ w.heap.size) := ⟨Nat.le_trans h.2.1 (Nat.le_of_lt (blk_lt h.1))⟩
  have HQ8 := Aside0.mk q8
  clear hi hin hL hs hcell hbits hcnt hgb hne h hf hgl
  generalize p / 64 = d at *
  generalize p % 64 = r at *
  generalize hy2 : N.clrW (ws.getD d 0) r = y2 at HBI hor
  generalize ws.getD d 0 = y at *
  have hsh2 : IntKind.u64.wrap ((2 : Int) ^ r) = ((2 ^ r : Nat) : Int) := by
    rw [show (2 : Int) ^ r = ((2 ^ r : Nat) : Int) from by rw [Int.natCast_pow]; rfl]
    exact N.u64n _ (N.pow_lt64 hr64)
  have hwd : wrap64 ((d : Nat) : Int) = ((d : Nat) : Int) := by unfold wrap64; omega
  have HWD := Aside0.mk hwd
  clear hwd
  generalize hpw : 2 ^ r = b2 at hor hsh hsh2
  clear hy2 hpw
  obtain ⟨x, hx0⟩ : ∃ x : Int, (p : Int) = x := ⟨_, rfl⟩
  have HX := Aside0.mk hx0
  have z0 : decide (x < 0) = false := decide_eq_false (by omega)
  rw [hx0] at q3 q4
  simp only [hx0] at HF ⊢
  have z1 : decide ((d : Int) < ((ofN ws).length : Int)) = true := decide_eq_true (by omega)
  have z2 : decide (0 ≤ (d : Int)) = true := decide_eq_true (by omega)
  have z3 : (d : Int) < ((ofN ws).length : Int) := by omega
  clear hx0 q8
  go_enter Tryd.func9, Tryd.ntmps9
  go_wp2_with (go_at_call 15; refine HF.out.mono ?_; rintro e w1 ⟨rfl, ⟨nd, rfl⟩⟩)
  have hwd := HWD.out
  have z4 : (0 : Int) ≤ (d : Int) := of_decide_eq_true z2
  have HC0 : Aside0 ((w.drewN nd).drew.cell? ⟨g, 0, none⟩ = some (.slice (some ⟨gb, 0, none⟩) (ofN ws).length cb)) := ⟨h0⟩
  have HC1 : Aside0 ((w.drewN nd).drew.cell? ⟨gb, d, none⟩ = some (.int .u64 (y : Int))) := ⟨hx⟩
  have HFR : Aside0 ((w.drewN nd).drew.frozen? ⟨gb, d, none⟩ = false) := ⟨hfr⟩
  refine start_ (n := 14) (S := fun w' => w'.cell? ⟨g, 0, none⟩ = some (.slice (some ⟨gb, 0, none⟩) (ofN ws).length cb) ∧ w'.cell? ⟨gb, d, none⟩ = some (.int .u64 (y : Int)) ∧ w'.frozen? ⟨gb, d, none⟩ = false) (ds := [13]) #[false, false, false, false, false, false, false, false, false, false, false, false, false, false] (by kernel_rfl) rfl rfl ⟨HC0.out, HC1.out, HFR.out⟩ (fun hHeld => ?_)
  refine pure_ (i := 0) (N := some 13) (v := ?_) (a' := ?_) #[true, false, false, false, false, false, false, false, false, false, false, false, false, false] rfl rfl (by kernel_rfl) (fun _ _ _ h => h) (Or.inl ⟨by rfl, ?_⟩) ?_ ?_
  rotate_left
  · intro w'
    go_simp
    with_reducible rfl
  rotate_left
  · simp only [Act.put, List.setIfInBounds_toArray, List.set_cons_zero, List.set_cons_succ, i64_w, i32_w]
    rfl
  refine pure_ (i := 1) (N := some 14) (v := ?_) (a' := ?_) #[true, true, false, false, false, false, false, false, false, false, false, false, false, false] rfl rfl (by kernel_rfl) (fun _ _ _ h => h) (Or.inl ⟨by rfl, ?_⟩) ?_ ?_
  rotate_left
  · intro w'
    go_simp
    with_reducible rfl
  rotate_left
  · simp only [Act.put, List.setIfInBounds_toArray, List.set_cons_zero, List.set_cons_succ, i64_w, i32_w]
    rfl
  refine pure_ (i := 2) (N := some 15) (v := ?_) (a' := ?_) #[true, true, true, false, false, false, false, false, false, false, false, false, false, false] rfl rfl (by kernel_rfl) (fun _ _ _ h => h) (Or.inl ⟨by rfl, ?_⟩) ?_ ?_
  rotate_left
  · intro w'
    go_simp
    with_reducible rfl
  rotate_left
  · simp only [Act.put, List.setIfInBounds_toArray, List.set_cons_zero, List.set_cons_succ, i64_w, i32_w]
    rfl
  refine pure_ (i := 4) (N := some 17) (v := ?_) (a' := ?_) #[true, true, true, false, true, false, false, false, false, false, false, false, false, false] rfl rfl (by kernel_rfl) (fun _ _ _ h => h) (Or.inl ⟨by rfl, ?_⟩) ?_ ?_
  rotate_left
  · intro w'
    go_simp
    with_reducible rfl
  rotate_left
  · simp only [Act.put, List.setIfInBounds_toArray, List.set_cons_zero, List.set_cons_succ, i64_w, i32_w]
    rfl
  refine pure_ (i := 5) (N := some 18) (v := ?_) (a' := ?_) #[true, true, true, false, true, true, false, false, false, false, false, false, false, false] rfl rfl (by kernel_rfl) (fun _ _ _ h => h) (Or.inl ⟨by rfl, ?_⟩) ?_ ?_
  rotate_left
  · intro w'
    go_simp
    with_reducible rfl
  rotate_left
  · simp only [Act.put, List.setIfInBounds_toArray, List.set_cons_zero, List.set_cons_succ, i64_w, i32_w]
    rfl
  refine pure_ (i := 8) (N := some 21) (v := ?_) (a' := ?_) #[true, true, true, false, true, true, false, false, true, false, false, false, false, false] rfl rfl (by kernel_rfl) (fun _ _ _ h => h) (Or.inl ⟨by rfl, ?_⟩) ?_ ?_
  rotate_left
  · intro w'
    go_simp
    with_reducible rfl
  rotate_left
  · simp only [Act.put, List.setIfInBounds_toArray, List.set_cons_zero, List.set_cons_succ, i64_w, i32_w]
    rfl
  refine pure_ (i := 9) (N := some 22) (v := ?_) (a' := ?_) #[true, true, true, false, true, true, false, false, true, true, false, false, false, false] rfl rfl (by kernel_rfl) (fun _ _ _ h => h) (Or.inl ⟨by rfl, ?_⟩) ?_ ?_
  rotate_left
  · intro w'
    go_simp
    with_reducible rfl
  rotate_left
  · simp only [Act.put, List.setIfInBounds_toArray, List.set_cons_zero, List.set_cons_succ, i64_w, i32_w]
    rfl
  refine pure_ (i := 10) (N := some 23) (v := ?_) (a' := ?_) #[true, true, true, false, true, true, false, false, true, true, true, false, false, false] rfl rfl (by kernel_rfl) (fun _ _ _ h => h) (Or.inl ⟨by rfl, ?_⟩) ?_ ?_
  rotate_left
  · intro w'
    go_simp
    with_reducible rfl
  rotate_left
  · simp only [Act.put, List.setIfInBounds_toArray, List.set_cons_zero, List.set_cons_succ, i64_w, i32_w]
    rfl
  refine take_ (i := 3) (N := some 16) (v := ?_) (a' := ?_) #[true, true, true, true, true, true, false, false, true, true, true, false, false, false] rfl rfl (by kernel_rfl) (fun _ _ _ h => h) (Or.inl ⟨by rfl, ?_⟩) hHeld ?_ ?_
  rotate_left
  · intro w' hw'
    have x1 := hw'.1
    go_simp
    with_reducible rfl
  rotate_left
  · simp only [Act.put, List.setIfInBounds_toArray, List.set_cons_zero, List.set_cons_succ, i64_w, i32_w]
    rfl
  refine pure_ (i := 6) (N := some 19) (v := ?_) (a' := ?_) #[true, true, true, true, true, true, true, false, true, true, true, false, false, false] rfl rfl (by kernel_rfl) (fun _ _ _ h => h) (Or.inl ⟨by rfl, ?_⟩) ?_ ?_
  rotate_left
  · intro w'
    go_simp
    with_reducible rfl
  rotate_left
  · simp only [Act.put, List.setIfInBounds_toArray, List.set_cons_zero, List.set_cons_succ, i64_w, i32_w]
    rfl
  refine take_ (i := 7) (N := some 20) (v := ?_) (a' := ?_) #[true, true, true, true, true, true, true, true, true, true, true, false, false, false] rfl rfl (by kernel_rfl) (fun _ _ _ h => h) (Or.inl ⟨by rfl, ?_⟩) hHeld ?_ ?_
  rotate_left
  · intro w' hw'
    have x1 := hw'.2.1
    go_simp
    with_reducible rfl
  rotate_left
  · simp only [Act.put, List.setIfInBounds_toArray, List.set_cons_zero, List.set_cons_succ, i64_w, i32_w]
    rfl
  refine pure_ (i := 11) (N := some 24) (v := ?_) (a' := ?_) #[true, true, true, true, true, true, true, true, true, true, true, true, false, false] rfl rfl (by kernel_rfl) (fun _ _ _ h => h) (Or.inl ⟨by rfl, ?_⟩) ?_ ?_
  rotate_left
  · intro w'
    go_simp
    with_reducible rfl
  rotate_left
  · simp only [Act.put, List.setIfInBounds_toArray, List.set_cons_zero, List.set_cons_succ, i64_w, i32_w]
    rfl
  refine pure_ (i := 12) (N := some 25) (v := ?_) (a' := ?_) #[true, true, true, true, true, true, true, true, true, true, true, true, true, false] rfl rfl (by kernel_rfl) (fun _ _ _ h => h) (Or.inl ⟨by rfl, ?_⟩) ?_ ?_
  rotate_left
  · intro w'
    go_simp
    with_reducible rfl
  rotate_left
  · simp only [Act.put, List.setIfInBounds_toArray, List.set_cons_zero, List.set_cons_succ, i64_w, i32_w]
    rfl
  refine last_ (i := 13) (N := none) #[true, true, true, true, true, true, true, true, true, true, true, true, true, true] rfl rfl (by kernel_rfl) (by decide) (fun K hK => ?_)
  refine skip_ (w1 := ?_) (by rfl) rfl ?_ ?_
  rotate_left
  · have x1 := hHeld.2.1
    have x2 := hHeld.2.2
    go_simp
    rfl
  refine hK.out _ _ ?_
  clear hK K
  refine done_ (by kernel_rfl) ?_
  have HW := Aside0.mk (H.out.below (pw_below_drewN (Below.refl _ _) (nd + 1)))
  have HBK := Aside0.mk (Sl.blk (d := d) (y := y2) HW.out HNE.out)
  have k2 := (blk_cell HBK.out 2).trans rfl
  have kf := blk_frozen HBK.out 2
  clear h2 hf2 h0 hx hfr hwd z4
  go_wp2
  go_ret
  have hp := Sl.put (y := y2) (d := d) HW.out HNE.out HBI.out (by simp)
  rw [show ((cnt (l.set p false) : Nat) : Int) = (cnt l : Int) - 1 from by have := HCN.out; omega] at hp
  have hk := Sl.keep (z := .int .i64 ((cnt l : Int) - 1)) (y := y2) (d := d) HW.out HGB.out (pw_below_drewN (Below.refl w.heap.size w) (nd + 1)) HBS.out
  exact ⟨rfl, _, hp, hk.1, hk.2⟩
end Go.Proofs.YtmfacoccojenlaaDoor.F
