import Derived.Test.YtogdooclldoomaaWireRW
namespace Go.Proofs.Ytogdooclldoomaa.F
open Go.RowKit Go.Proofs.YtogdooclldoomaaW.PrintWords Go.Proofs.YtogdooclldoomaaW.PrintLast Go.Proofs.YtogdooclldoomaaW.PrintMore
set_option linter.unusedSimpArgs false
set_option linter.unusedVariables false
set_option maxHeartbeats 16000000 in
set_option maxRecDepth 100000 in
theorem tombolalaw05_WireReads.calls (A0 : Option Addr) (c0 : Nat) (b : List Int) (A1 : Option Addr) (c1 : Nat) (l1 : List S89) (w : World) (hr0 : Kd.C (Kd.int .u8) w A0 b.length b) (hc0 : b.length ≤ c0) (hr1 : Kd.C k89 w A1 l1.length l1) (hc1 : l1.length ≤ c1) (hbt : ∀ x ∈ b, 0 ≤ x ∧ x < 256) (htop : ∀ a ∈ l1, a.f1 ≤ 9223372036854775807) :
    Calls Try.prog 11 #[.slice A0 b.length c0, .slice A1 l1.length c1] w fun e w' => e = .returned (.bool true) ∧ Below w.heap.size w w' := by
  have HR0 := Aside0.mk hr0
  have HC0 := Aside0.mk hc0
  have HR1 := Aside0.mk hr1
  have HC1 := Aside0.mk hc1
  have HBt := Aside0.mk hbt
  have HTp := Aside0.mk htop
  clear hr0 hc0 hr1 hc1 hbt htop
  by_cases g0 : (b.length : Int) > 600
  · have b0 : decide ((600 : Int) < (b.length : Int)) = true := decide_eq_true g0
    clear g0
    go_enter Try.func11, Try.ntmps11
    go_wp2_with (go_at_call 52; refine (tombolalaw05_alive.own _).mono ?_; rintro e9 w9 ⟨rfl, hb⟩; have HA := Aside0.mk hb; clear hb)
    go_ret
    exact ⟨rfl, HA.out⟩
  have b0 : decide ((600 : Int) < (b.length : Int)) = false := decide_eq_false g0
  by_cases g1 : (l1.length : Int) > 60
  · have b1 : decide ((60 : Int) < (l1.length : Int)) = true := decide_eq_true g1
    clear g0 g1
    go_enter Try.func11, Try.ntmps11
    go_wp2_with (go_at_call 52; refine (tombolalaw05_alive.own _).mono ?_; rintro e9 w9 ⟨rfl, hb⟩; have HA := Aside0.mk hb; clear hb)
    go_ret
    exact ⟨rfl, HA.out⟩
  have b1 : decide ((60 : Int) < (l1.length : Int)) = false := decide_eq_false g1
  have HL : Aside0 (b.length ≤ 600 ∧ l1.length ≤ 60) := ⟨by omega, by omega⟩
  clear g0 g1
  go_enter Try.func11, Try.ntmps11
  go_wp2_with (first
    | ((with_reducible refine gate_dst (N := 21) rfl ?_);(try (refine gate_guard (by rfl) ?_;dsimp only));refine Kd.R_lit (Kd.int .u8) _ 5 ?hg (N := 21) ?hd (xs := ([] : List Int)) (inner := []) (ok := fun _ => True) (okp := fun _ => True) ?hr ?hp (fun _ hk => hk) trivial (Below.refl _ _) (Nat.le_refl _) (by simp) ?_;(case hd => rfl);(case hg => rfl);(case hr => first|(go_simp;done)|(go_simp;rfl));(case hp => exact (Reps.none _ _));intro v1 w1 ho1 hb1 hg_ hnew_;clear hg_ hnew_;have HB := Aside0.mk hb1;have HO := Aside0.mk ho1;clear hb1 ho1)
    | ((with_reducible refine gate_builtin (b := .append) (xs := #[.tmp 21, .tmp 22]) rfl ?_);(try (refine gate_guard (by rfl) ?_;dsimp only));at_builtin;refine Kd.R_append_rows (Kd.int .u8) (w0 := w) w.heap.size rfl (.tmp 21) (.tmp 22) 78 5 (.int .u8 0) 1 rfl Try.underlying78 info5 rfl (by decide) (by omega) v1 [] b _ _ _ (fun _ => True) (fun _ => False) rfl rfl ?aO ?aR (fun _ _ h => h) (fun _ h => h.elim) ?aF ?aB ?aS ?aL ?_;(case aR => exact Kd.C_below HR0.out HB.out);(case aB => exact HB.out);(case aF => exact (fun _ _ => trivial));(case aO => exact HO.out);(case aS => exact HB.out.size);(case aL => have := HL.out;simp only [List.length_nil];omega);intro v2 w2 ho hb hg hat;clear HB HO;have HB := Aside0.mk (hb);have HO := Aside0.mk (show Kd.R (Kd.int .u8) 5 w2 w.heap.size (fun _ => True) v2 b from ho);obtain ⟨A2, c2, rfl, hc2, hC2⟩ := Kd.R_reads HO.out;have HC2 := Aside0.mk hC2;have Hc2 := Aside0.mk hc2;clear hb ho hg hat hC2 hc2)
    | (go_at_call 57; refine (wire_NewReader.own2 A2 c2 b _ HC2.out Hc2.out (by have := HL.out; omega)).mono ?_; rintro e9 w3 ⟨gr, A3, c3, rfl, hblk, hR, hc, hb, hge⟩; have HB3 := Aside0.mk hb; have P1 := Aside0.mk hblk; have P2 := Aside0.mk hR; have P3 := Aside0.mk hc; have P4 := Aside0.mk hge; clear hblk hR hc hb hge)
    | (go_at_call 58; refine (ref05_New.own2 A0 c0 b _ (Kd.C_below HR0.out (HB.out.trans (HB3.out.mono HB.out.size))) HC0.out (by have := HL.out; omega)).mono ?_; rintro e9 w4 ⟨gf, A4, c4, rfl, hblk, hR, hb, hge⟩; have HB4 := Aside0.mk hb; have S1 := Aside0.mk hblk; have S2 := Aside0.mk hR; have S4 := Aside0.mk hge; clear hblk hR hb hge))
  have T1 : Aside0 (w.heap.size ≤ w2.heap.size ∧ w2.heap.size ≤ gr ∧ gr < w3.heap.size ∧ w3.heap.size ≤ gf) := ⟨HB.out.size, P4.out, blk_lt P1.out, S4.out⟩
  have HO4 := Aside0.mk (Kd.R_below HO.out (HB3.out.trans (HB4.out.mono HB3.out.size)))
  have P1' := Aside0.mk (blk_below P1.out HB4.out)
  have P2' := Aside0.mk (Kd.R_below P2.out HB4.out)
  have HB' := Aside0.mk (HB.out.trans ((HB3.out.trans (HB4.out.mono HB3.out.size)).mono HB.out.size))
  have HOl : Aside0 (∀ k, (Value.slice A2 b.length c2).ownBlock = some k → k < w2.heap.size) := ⟨fun k hk => Kd.R_lt HO.out k hk⟩
  clear HC2 Hc2 HO HB
  go_loopg [8] b.length (fun gg s8 wx => ∃ (kk : Nat) (xs : List Int), kk ≤ b.length ∧ b.length - kk ≤ gg ∧ s8 = .int .i64 (kk : Int) ∧ xs.length = b.length ∧ Aside0 (Kd.R (Kd.int .u8) 5 wx w.heap.size (fun _ => True) (.slice A2 b.length c2) xs) ∧ Aside0 (wx.heap[gr]? = some (.cells #[.slice A3 b.length c3, .int .i64 0] 114 (0, 0))) ∧ Aside0 (Kd.R (Kd.int .u8) 5 wx w2.heap.size (fun k => w2.heap.size ≤ k ∧ k < gr) (.slice A3 b.length c3) b) ∧ Aside0 (wx.heap[gf]? = some (.cells #[.slice A4 b.length c4, .int .i64 0, .int .i64 0] 95 (0, 0))) ∧ Aside0 (Kd.R (Kd.int .u8) 5 wx w3.heap.size (fun k => w3.heap.size ≤ k ∧ k < gf) (.slice A4 b.length c4) b) ∧ Aside0 (Below w.heap.size w wx))
  case atStart => exact ⟨0, b, Nat.zero_le _, by omega, rfl, rfl, HO4, P1', P2', S1, S2, HB'⟩
  case round =>
    clear HO4 P1' P2' HB' P1 P2 S1 S2 HB3 HB4
    obtain ⟨kk, xs, hkk, hg, rfl, hxs, RO, P1, P2, S1, S2, HB⟩ := hrel
    by_cases hlt : kk < b.length
    · obtain ⟨go, co, eo, gb, gl, cl, HGo⟩ := Kd.R_form RO.out (by omega)
      injection eo with ea_ en_ ec_
      subst ea_ ec_
      have h0 : 0 ≤ (kk : Int) := by omega
      have hltz : (kk : Int) < (b.length : Int) := by omega
      have hltx : (kk : Int) < (xs.length : Int) := by omega
      rw [← hxs] at RO
      obtain ⟨hx, hf⟩ := Kd.R_celln 0 RO.out (kk : Int) h0 hltx
      have HP := Aside0.mk (Kd.R_putg RO.out (kk : Int) (Go.bits .xor .u8 (rdOf 0 xs (kk : Int)) 85))
      rw [Int.toNat_natCast] at hx hf
      rw [hxs] at RO HP
      have Gl : Aside0 (go < w2.heap.size) := ⟨HOl.out go rfl⟩
      have GB := Aside0.mk gb
      have EW : Aside0 (wrap64 ((kk : Int) + 1) = ((kk + 1 : Nat) : Int)) := ⟨by have := HL.out; unfold wrap64; omega⟩
      have R1 : Aside0 (kk + 1 ≤ b.length) := ⟨hlt⟩
      have R2 : Aside0 (b.length - (kk + 1) < gk) := ⟨by omega⟩
      have HXS := Aside0.mk hxs
      have HLT : Aside0 (kk < b.length) := ⟨hlt⟩
      clear gl gb HGo en_ hltx hlt hkk hg hxs
      replace h0 := eq_true h0
      have bz : decide ((kk : Int) < (b.length : Int)) = true := decide_eq_true hltz
      replace hltz := eq_true hltz
      go_wp2
      go_roundg (b.length - (kk + 1))
      case measure => exact R2.out
      case rel =>
        have hg := HP.out.2
        have hp := HP.out.1
        rw [Int.toNat_natCast] at hg hp
        have g1 := Gl.out
        have g2 := T1.out
        refine ⟨kk + 1, xs.set kk (Go.bits .xor .u8 (rdOf 0 xs (kk : Int)) 85), R1.out, Nat.le_refl _, congrArg _ EW.out, by rw [List.length_set]; exact HXS.out, ⟨hp⟩, ⟨?_⟩, ⟨?_⟩, ⟨?_⟩, ⟨?_⟩, ⟨?_⟩⟩
        · exact blk_grown P1.out hg (by intro e; injection e with e; omega)
        · exact Kd.R_grown P2.out hg (by intro k hk e; injection e with e; omega)
        · exact blk_grown S1.out hg (by intro e; injection e with e; omega)
        · exact Kd.R_grown S2.out hg (by intro k hk e; injection e with e; omega)
        · exact HB.out.setCell GB.out _
    · have bz : decide ((kk : Int) < (b.length : Int)) = false := decide_eq_false (by omega)
      have hg2 := T1.out
      have HX0 : Aside0 (Both w wr (trunc wr gr) gr gf b 0 0) := ⟨⟨by rw [List.drop_zero]; exact mkRd P1.out P2.out (fun k hk => hk.2) P3.out, trunc_below (Nat.le_of_lt (blk_lt P1.out)), mkR5 S1.out S2.out (fun k hk => hk.2), HB.out⟩⟩
      obtain ⟨wa, hwa⟩ : ∃ wa, trunc wr gr = wa := ⟨_, rfl⟩
      have HG : Aside0 (gr < gf ∧ w.heap.size ≤ gr ∧ wa.heap.size ≤ gr) := ⟨by omega, by omega, by rw [← hwa, trunc_size (Nat.le_of_lt (blk_lt P1.out))]; exact Nat.le_refl _⟩
      rw [hwa] at HX0
      clear hwa hlt hkk hg hxs RO P1 P2 S1 S2 HB hg2 P3 P4 S4 T1 HOl
      generalize (kk : Int) = i at bz ⊢
      go_wp2
      go_loopg [9] l1.length (fun gg s9 wx => ∃ (kk p : Nat) (e : Int), kk ≤ l1.length ∧ l1.length - kk ≤ gg ∧ True ∧ s9 = .int .i64 (kk : Int) ∧ p ≤ b.length ∧ Aside0 (Both w wx wa gr gf b p e))
      case atStart => exact ⟨0, 0, 0, Nat.zero_le _, by omega, trivial, rfl, Nat.zero_le _, HX0⟩
      case round =>
        clear HX0
        obtain ⟨kk, p, e, hkk, hg, _, rfl, hp, HX⟩ := hrel
        have HP := Aside0.mk hp
        by_cases hlt : kk < l1.length
        · have hltz : (kk : Int) < (l1.length : Int) := by omega
          have h0 : 0 ≤ (kk : Int) := by omega
          have bz : decide ((kk : Int) < (l1.length : Int)) = true := decide_eq_true hltz
          obtain ⟨ad, rfl, q0, q1, q2⟩ := at_T89 HR1.out (kk : Int) h0 hltz
          replace q0 := pw_cell_below HX.out.wb q0
          replace q1 := pw_cell_below HX.out.wb q1
          replace q2 := pw_cell_below HX.out.wb q2
          rw [Int.toNat_natCast] at q0 q1 q2
          have HTop : Aside0 ((rd_T89 l1 (kk : Int)).f1 ≤ 9223372036854775807) := ⟨HTp.out _ (by
            have e : rd_T89 l1 (kk : Int) = l1[kk] := by
              show l1.getD (kk : Int).toNat _ = _
              rw [Int.toNat_natCast, List.getD_eq_getElem?_getD, List.getElem?_eq_getElem hlt]
              rfl
            rw [e]
            exact List.getElem_mem hlt)⟩
          generalize rd_T89 l1 (kk : Int) = a at q0 q1 q2 HTop
          have hu := Try.underlying89
          have R1 : Aside0 (kk + 1 ≤ l1.length) := ⟨hlt⟩
          have R2 : Aside0 (l1.length - (kk + 1) < gk) := ⟨by omega⟩
          have EW : Aside0 (wrap64 ((kk : Int) + 1) = ((kk + 1 : Nat) : Int)) := ⟨by have := HL.out; unfold wrap64; omega⟩
          have XBa : Below wr.heap.size wr (wr.alloc (.cells #[.int .i64 a.f0, .int .i64 a.f1, .int .u64 a.f2] 89)) := below_alloc (Below.refl _ _) _
          have XK : Aside0 ((wr.alloc (.cells #[.int .i64 a.f0, .int .i64 a.f1, .int .u64 a.f2] 89)).heap[wr.heap.size]? = some (.cells #[.int .i64 a.f0, .int .i64 a.f1, .int .u64 a.f2] 89 (0, 0))) := ⟨by simpa using heap_alloc_new _ _⟩
          have HNE : Aside0 (wr.heap.size ≠ gr ∧ wr.heap.size ≠ gf) := ⟨by
            have h1 := HX.out.r5.lt
            have h2 := HG.out.1
            omega, by
            have h1 := HX.out.r5.lt
            omega⟩
          have HX2 := Aside0.mk (HX.out.below XBa)
          clear HX XBa hlt hkk hg hp
          have HX := HX2
          clear HX2
          replace h0 := eq_true h0
          replace hltz := eq_true hltz
          go_upto_block 4 with (fail)
          go_cut [11] (fun v11 wc => ∃ (p2 : Nat) (e2 : Int), v11 = .bool true ∧ p2 ≤ b.length ∧ Aside0 (Both w wc wa gr gf b p2 e2))
          case first =>
            clear q0 q1 q2 EW R1 R2
            have p0 := (blk_cell XK.out 0).trans rfl
            by_cases k0 : a.f0 = 0
            · have b0 : (a.f0 == 0) = true := beq_iff_eq.mpr k0
              clear k0
              obtain ⟨ks, p2, z1, z2, z3, z4⟩ := num_sim b HBt.out (by have := HL.out; omega) e a.f2 p HP.out
              obtain ⟨v, l2, e2, hq⟩ : ∃ v l2 e2, numR (b.drop p) e a.f2 = (v, l2, e2) := ⟨_, _, _, rfl⟩
              rw [hq] at z1 z3
              have HQ := Aside0.mk hq
              have Z1 := Aside0.mk z1
              have Z2 := Aside0.mk z2
              have Z3 := Aside0.mk z3
              clear hq z1 z2 z3 z4
              go_wp2
              refine start_ (n := 10) (S := fun w' => w'.heap[wr.heap.size]? = some (.cells #[.int .i64 a.f0, .int .i64 a.f1, .int .u64 a.f2] 89 (0, 0))) (ds := []) #[false, false, false, false, false, false, false, false, false, false] (by kernel_rfl) rfl rfl (by exact XK.out) (fun hHeld => ?_)
              refine pure_ (i := 0) (N := some 54) (v := ?_) (a' := ?_) #[true, false, false, false, false, false, false, false, false, false] rfl rfl (by kernel_rfl) (fun _ _ _ h => h) (Or.inl ⟨by rfl, ?_⟩) ?_ ?_
              rotate_left
              · intro w'
                go_simp
                with_reducible rfl
              rotate_left
              · simp only [Act.put, List.setIfInBounds_toArray, List.set_cons_zero, List.set_cons_succ, i64_w, i32_w]
                rfl
              refine pure_ (i := 1) (N := some 55) (v := ?_) (a' := ?_) #[true, true, false, false, false, false, false, false, false, false] rfl rfl (by kernel_rfl) (fun _ _ _ h => h) (Or.inl ⟨by rfl, ?_⟩) ?_ ?_
              rotate_left
              · intro w'
                go_simp
                with_reducible rfl
              rotate_left
              · simp only [Act.put, List.setIfInBounds_toArray, List.set_cons_zero, List.set_cons_succ, i64_w, i32_w]
                rfl
              refine pure_ (i := 4) (N := some 58) (v := ?_) (a' := ?_) #[true, true, false, false, true, false, false, false, false, false] rfl rfl (by kernel_rfl) (fun _ _ _ h => h) (Or.inl ⟨by rfl, ?_⟩) ?_ ?_
              rotate_left
              · intro w'
                go_simp
                with_reducible rfl
              rotate_left
              · simp only [Act.put, List.setIfInBounds_toArray, List.set_cons_zero, List.set_cons_succ, i64_w, i32_w]
                rfl
              refine pure_ (i := 5) (N := some 59) (v := ?_) (a' := ?_) #[true, true, false, false, true, true, false, false, false, false] rfl rfl (by kernel_rfl) (fun _ _ _ h => h) (Or.inl ⟨by rfl, ?_⟩) ?_ ?_
              rotate_left
              · intro w'
                go_simp
                with_reducible rfl
              rotate_left
              · simp only [Act.put, List.setIfInBounds_toArray, List.set_cons_zero, List.set_cons_succ, i64_w, i32_w]
                rfl
              refine take_ (i := 2) (N := some 56) (v := ?_) (a' := ?_) #[true, true, true, false, true, true, false, false, false, false] rfl rfl (by kernel_rfl) (fun _ _ _ h => h) (Or.inl ⟨by rfl, ?_⟩) hHeld ?_ ?_
              rotate_left
              · intro w' hw'
                have hz := (blk_cell hw' 2).trans rfl
                go_simp
                with_reducible rfl
              rotate_left
              · simp only [Act.put, List.setIfInBounds_toArray, List.set_cons_zero, List.set_cons_succ, i64_w, i32_w]
                rfl
              refine take_ (i := 6) (N := some 60) (v := ?_) (a' := ?_) #[true, true, true, false, true, true, true, false, false, false] rfl rfl (by kernel_rfl) (fun _ _ _ h => h) (Or.inl ⟨by rfl, ?_⟩) hHeld ?_ ?_
              rotate_left
              · intro w' hw'
                have hz := (blk_cell hw' 2).trans rfl
                go_simp
                with_reducible rfl
              rotate_left
              · simp only [Act.put, List.setIfInBounds_toArray, List.set_cons_zero, List.set_cons_succ, i64_w, i32_w]
                rfl
              refine one_ (i := 3) (N := some 57) #[true, true, true, true, true, true, true, false, false, false] rfl rfl (by kernel_rfl) (by decide) (fun K hK => ?_)
              refine goes_ Try.func59 (by kernel_rfl) rfl #[.pointer (some ⟨gr, 0, none⟩), .int .u64 a.f2] (by rfl) rfl rfl (by first | (simp only [List.map_toArray, List.map_cons, List.map_nil]; done) | (simp only [List.map_toArray, List.map_cons, List.map_nil]; rfl)) ?_
              refine (wire_Reader_Num.own (w0 := wa) (g := gr) (l := b.drop p) (e := e) a.f2 (by exact HX.out.rd.below (below_drew (Below.refl _ _))) (by exact below_drew HX.out.rb)).mono ?_
              rintro en w8 ⟨he, hd⟩
              rw [HQ.out] at he hd
              subst he
              have HX2 := Aside0.mk ((HX.out.below (below_drew (Below.refl _ _))).r HG.out.1 HG.out.2.1 (by exact hd))
              have hkeep := hd.keep
              clear HX hd
              have HX := HX2
              clear HX2
              refine ⟨_, rfl, ?_⟩
              refine hK.out _ _ (hkeep.blk hHeld HNE.out.1 (by simp)) (fun hHeld => ?_)
              clear hK K
              refine norm_ (a' := ?_) ?_ ?_
              rotate_left
              · show Act.put _ (some 57) _ = _
                simp only [Act.put, List.setIfInBounds_toArray, List.set_cons_zero, List.set_cons_succ, i64_w, i32_w]
                rfl
              refine one_ (i := 7) (N := some 61) #[true, true, true, true, true, true, true, true, false, false] rfl rfl (by kernel_rfl) (by decide) (fun K hK => ?_)
              have bv : (v == v) = true := beq_self_eq_true v
              refine goes_ Try.func60 (by kernel_rfl) rfl #[.pointer (some ⟨gf, 0, none⟩), .int .u64 a.f2] (by rfl) rfl rfl (by first | (simp only [List.map_toArray, List.map_cons, List.map_nil]; done) | (simp only [List.map_toArray, List.map_cons, List.map_nil]; rfl)) ?_
              refine (ref05_Num.own (g := gf) (l := b) (at_ := (p : Int)) (e := e) ks a.f2 v (p2 : Int) e2 HX.out.r5 Z1.out).mono ?_
              rintro en w7 ⟨rfl, h1, h2, hkeep⟩
              have HX2 := Aside0.mk (HX.out.f HG.out.1 HG.out.2.1 HG.out.2.2 Z3.out ⟨h1, h2, hkeep, Nat.le_of_lt HX.out.r5.lt⟩)
              clear HX h1 h2
              have HX := HX2
              clear HX2
              refine ⟨_, rfl, ?_⟩
              refine hK.out _ _ (hkeep.blk hHeld HNE.out.2 (by simp)) (fun hHeld => ?_)
              clear hK K
              refine norm_ (a' := ?_) ?_ ?_
              rotate_left
              · show Act.put _ (some 61) _ = _
                simp only [Act.put, List.setIfInBounds_toArray, List.set_cons_zero, List.set_cons_succ, i64_w, i32_w]
                rfl
              refine pure_ (i := 8) (N := some 62) (v := ?_) (a' := ?_) #[true, true, true, true, true, true, true, true, true, false] rfl rfl (by kernel_rfl) (fun _ _ _ h => h) (Or.inl ⟨by rfl, ?_⟩) ?_ ?_
              rotate_left
              · intro w'
                go_simp
                with_reducible rfl
              rotate_left
              · simp only [Act.put, List.setIfInBounds_toArray, List.set_cons_zero, List.set_cons_succ, i64_w, i32_w]
                rfl
              refine pure_ (i := 9) (N := some 11) (v := ?_) (a' := ?_) #[true, true, true, true, true, true, true, true, true, true] rfl rfl (by kernel_rfl) (fun _ _ _ h => h) (Or.inl ⟨by rfl, ?_⟩) ?_ ?_
              rotate_left
              · intro w'
                go_simp
                with_reducible rfl
              rotate_left
              · simp only [Act.put, List.setIfInBounds_toArray, List.set_cons_zero, List.set_cons_succ, i64_w, i32_w]
                rfl
              refine done_ (by kernel_rfl) ?_
              go_wp2
              go_meet
              case rel => exact ⟨p2, e2, rfl, Z2.out, HX⟩
            by_cases k1 : a.f0 = 1
            · have b0 : (a.f0 == 0) = false := beq_eq_false_iff_ne.mpr k0
              have b1 : (a.f0 == 1) = true := beq_iff_eq.mpr k1
              clear k0 k1
              obtain ⟨ks, p2, z1, z2, z3, z4⟩ := int_sim b HBt.out (by have := HL.out; omega) e a.f1 p HP.out
              obtain ⟨v, l2, e2, hq⟩ : ∃ v l2 e2, intR (b.drop p) e a.f1 = (v, l2, e2) := ⟨_, _, _, rfl⟩
              rw [hq] at z1 z3
              have HQ := Aside0.mk hq
              have Z1 := Aside0.mk z1
              have Z2 := Aside0.mk z2
              have Z3 := Aside0.mk z3
              clear hq z1 z2 z3 z4
              go_wp2
              refine start_ (n := 10) (S := fun w' => w'.heap[wr.heap.size]? = some (.cells #[.int .i64 a.f0, .int .i64 a.f1, .int .u64 a.f2] 89 (0, 0))) (ds := []) #[false, false, false, false, false, false, false, false, false, false] (by kernel_rfl) rfl rfl (by exact XK.out) (fun hHeld => ?_)
              refine pure_ (i := 0) (N := some 65) (v := ?_) (a' := ?_) #[true, false, false, false, false, false, false, false, false, false] rfl rfl (by kernel_rfl) (fun _ _ _ h => h) (Or.inl ⟨by rfl, ?_⟩) ?_ ?_
              rotate_left
              · intro w'
                go_simp
                with_reducible rfl
              rotate_left
              · simp only [Act.put, List.setIfInBounds_toArray, List.set_cons_zero, List.set_cons_succ, i64_w, i32_w]
                rfl
              refine pure_ (i := 1) (N := some 66) (v := ?_) (a' := ?_) #[true, true, false, false, false, false, false, false, false, false] rfl rfl (by kernel_rfl) (fun _ _ _ h => h) (Or.inl ⟨by rfl, ?_⟩) ?_ ?_
              rotate_left
              · intro w'
                go_simp
                with_reducible rfl
              rotate_left
              · simp only [Act.put, List.setIfInBounds_toArray, List.set_cons_zero, List.set_cons_succ, i64_w, i32_w]
                rfl
              refine pure_ (i := 4) (N := some 69) (v := ?_) (a' := ?_) #[true, true, false, false, true, false, false, false, false, false] rfl rfl (by kernel_rfl) (fun _ _ _ h => h) (Or.inl ⟨by rfl, ?_⟩) ?_ ?_
              rotate_left
              · intro w'
                go_simp
                with_reducible rfl
              rotate_left
              · simp only [Act.put, List.setIfInBounds_toArray, List.set_cons_zero, List.set_cons_succ, i64_w, i32_w]
                rfl
              refine pure_ (i := 5) (N := some 70) (v := ?_) (a' := ?_) #[true, true, false, false, true, true, false, false, false, false] rfl rfl (by kernel_rfl) (fun _ _ _ h => h) (Or.inl ⟨by rfl, ?_⟩) ?_ ?_
              rotate_left
              · intro w'
                go_simp
                with_reducible rfl
              rotate_left
              · simp only [Act.put, List.setIfInBounds_toArray, List.set_cons_zero, List.set_cons_succ, i64_w, i32_w]
                rfl
              refine take_ (i := 2) (N := some 67) (v := ?_) (a' := ?_) #[true, true, true, false, true, true, false, false, false, false] rfl rfl (by kernel_rfl) (fun _ _ _ h => h) (Or.inl ⟨by rfl, ?_⟩) hHeld ?_ ?_
              rotate_left
              · intro w' hw'
                have hz := (blk_cell hw' 1).trans rfl
                go_simp
                with_reducible rfl
              rotate_left
              · simp only [Act.put, List.setIfInBounds_toArray, List.set_cons_zero, List.set_cons_succ, i64_w, i32_w]
                rfl
              refine take_ (i := 6) (N := some 71) (v := ?_) (a' := ?_) #[true, true, true, false, true, true, true, false, false, false] rfl rfl (by kernel_rfl) (fun _ _ _ h => h) (Or.inl ⟨by rfl, ?_⟩) hHeld ?_ ?_
              rotate_left
              · intro w' hw'
                have hz := (blk_cell hw' 1).trans rfl
                go_simp
                with_reducible rfl
              rotate_left
              · simp only [Act.put, List.setIfInBounds_toArray, List.set_cons_zero, List.set_cons_succ, i64_w, i32_w]
                rfl
              refine one_ (i := 3) (N := some 68) #[true, true, true, true, true, true, true, false, false, false] rfl rfl (by kernel_rfl) (by decide) (fun K hK => ?_)
              refine goes_ Try.func61 (by kernel_rfl) rfl #[.pointer (some ⟨gr, 0, none⟩), .int .i64 a.f1] (by rfl) rfl rfl (by first | (simp only [List.map_toArray, List.map_cons, List.map_nil]; done) | (simp only [List.map_toArray, List.map_cons, List.map_nil]; rfl)) ?_
              refine (wire_Reader_Int.own (w0 := wa) (g := gr) (l := b.drop p) (e := e) a.f1 (by exact HX.out.rd.below (below_drew (Below.refl _ _))) (by exact below_drew HX.out.rb)).mono ?_
              rintro en w8 ⟨he, hd⟩
              rw [HQ.out] at he hd
              subst he
              have HX2 := Aside0.mk ((HX.out.below (below_drew (Below.refl _ _))).r HG.out.1 HG.out.2.1 (by exact hd))
              have hkeep := hd.keep
              clear HX hd
              have HX := HX2
              clear HX2
              refine ⟨_, rfl, ?_⟩
              refine hK.out _ _ (hkeep.blk hHeld HNE.out.1 (by simp)) (fun hHeld => ?_)
              clear hK K
              refine norm_ (a' := ?_) ?_ ?_
              rotate_left
              · show Act.put _ (some 68) _ = _
                simp only [Act.put, List.setIfInBounds_toArray, List.set_cons_zero, List.set_cons_succ, i64_w, i32_w]
                rfl
              refine one_ (i := 7) (N := some 72) #[true, true, true, true, true, true, true, true, false, false] rfl rfl (by kernel_rfl) (by decide) (fun K hK => ?_)
              have bv : (v == v) = true := beq_self_eq_true v
              refine goes_ Try.func62 (by kernel_rfl) rfl #[.pointer (some ⟨gf, 0, none⟩), .int .i64 a.f1] (by rfl) rfl rfl (by first | (simp only [List.map_toArray, List.map_cons, List.map_nil]; done) | (simp only [List.map_toArray, List.map_cons, List.map_nil]; rfl)) ?_
              refine (ref05_Int.own (g := gf) (l := b) (at_ := (p : Int)) (e := e) ks a.f1 v (p2 : Int) e2 HX.out.r5 Z1.out).mono ?_
              rintro en w7 ⟨rfl, h1, h2, hkeep⟩
              have HX2 := Aside0.mk (HX.out.f HG.out.1 HG.out.2.1 HG.out.2.2 Z3.out ⟨h1, h2, hkeep, Nat.le_of_lt HX.out.r5.lt⟩)
              clear HX h1 h2
              have HX := HX2
              clear HX2
              refine ⟨_, rfl, ?_⟩
              refine hK.out _ _ (hkeep.blk hHeld HNE.out.2 (by simp)) (fun hHeld => ?_)
              clear hK K
              refine norm_ (a' := ?_) ?_ ?_
              rotate_left
              · show Act.put _ (some 72) _ = _
                simp only [Act.put, List.setIfInBounds_toArray, List.set_cons_zero, List.set_cons_succ, i64_w, i32_w]
                rfl
              refine pure_ (i := 8) (N := some 73) (v := ?_) (a' := ?_) #[true, true, true, true, true, true, true, true, true, false] rfl rfl (by kernel_rfl) (fun _ _ _ h => h) (Or.inl ⟨by rfl, ?_⟩) ?_ ?_
              rotate_left
              · intro w'
                go_simp
                with_reducible rfl
              rotate_left
              · simp only [Act.put, List.setIfInBounds_toArray, List.set_cons_zero, List.set_cons_succ, i64_w, i32_w]
                rfl
              refine pure_ (i := 9) (N := some 11) (v := ?_) (a' := ?_) #[true, true, true, true, true, true, true, true, true, true] rfl rfl (by kernel_rfl) (fun _ _ _ h => h) (Or.inl ⟨by rfl, ?_⟩) ?_ ?_
              rotate_left
              · intro w'
                go_simp
                with_reducible rfl
              rotate_left
              · simp only [Act.put, List.setIfInBounds_toArray, List.set_cons_zero, List.set_cons_succ, i64_w, i32_w]
                rfl
              refine done_ (by kernel_rfl) ?_
              go_wp2
              go_meet
              case rel => exact ⟨p2, e2, rfl, Z2.out, HX⟩
            by_cases k2 : a.f0 = 2
            · have b0 : (a.f0 == 0) = false := beq_eq_false_iff_ne.mpr k0
              have b1 : (a.f0 == 1) = false := beq_eq_false_iff_ne.mpr k1
              have b2 : (a.f0 == 2) = true := beq_iff_eq.mpr k2
              clear k0 k1 k2
              obtain ⟨ks, n, a2, e3, p2, z1, z2, z3, z4, z5, z6⟩ := text_sim b HBt.out (by have := HL.out; omega) e a.f1 HTop.out p HP.out
              obtain ⟨v, l2, e2, hq⟩ : ∃ v l2 e2, textR (b.drop p) e a.f1 = (v, l2, e2) := ⟨_, _, _, rfl⟩
              rw [hq] at z4 z6
              have HQ := Aside0.mk hq
              have Z1 := Aside0.mk z1
              have Z2 := Aside0.mk z5
              have Z3 := Aside0.mk z6
              have Z4 := Aside0.mk z4
              have Z5 : Aside0 (0 ≤ (a2 : Int) ∧ (a2 : Int) ≤ (b.length : Int)) := ⟨by omega, by omega⟩
              have Z6 := Aside0.mk z3
              clear hq z1 z2 z3 z4 z5 z6
              go_wp2
              refine start_ (n := 10) (S := fun w' => w'.heap[wr.heap.size]? = some (.cells #[.int .i64 a.f0, .int .i64 a.f1, .int .u64 a.f2] 89 (0, 0))) (ds := []) #[false, false, false, false, false, false, false, false, false, false] (by kernel_rfl) rfl rfl (by exact XK.out) (fun hHeld => ?_)
              refine pure_ (i := 0) (N := some 76) (v := ?_) (a' := ?_) #[true, false, false, false, false, false, false, false, false, false] rfl rfl (by kernel_rfl) (fun _ _ _ h => h) (Or.inl ⟨by rfl, ?_⟩) ?_ ?_
              rotate_left
              · intro w'
                go_simp
                with_reducible rfl
              rotate_left
              · simp only [Act.put, List.setIfInBounds_toArray, List.set_cons_zero, List.set_cons_succ, i64_w, i32_w]
                rfl
              refine pure_ (i := 1) (N := some 77) (v := ?_) (a' := ?_) #[true, true, false, false, false, false, false, false, false, false] rfl rfl (by kernel_rfl) (fun _ _ _ h => h) (Or.inl ⟨by rfl, ?_⟩) ?_ ?_
              rotate_left
              · intro w'
                go_simp
                with_reducible rfl
              rotate_left
              · simp only [Act.put, List.setIfInBounds_toArray, List.set_cons_zero, List.set_cons_succ, i64_w, i32_w]
                rfl
              refine pure_ (i := 4) (N := some 80) (v := ?_) (a' := ?_) #[true, true, false, false, true, false, false, false, false, false] rfl rfl (by kernel_rfl) (fun _ _ _ h => h) (Or.inl ⟨by rfl, ?_⟩) ?_ ?_
              rotate_left
              · intro w'
                go_simp
                with_reducible rfl
              rotate_left
              · simp only [Act.put, List.setIfInBounds_toArray, List.set_cons_zero, List.set_cons_succ, i64_w, i32_w]
                rfl
              refine pure_ (i := 5) (N := some 81) (v := ?_) (a' := ?_) #[true, true, false, false, true, true, false, false, false, false] rfl rfl (by kernel_rfl) (fun _ _ _ h => h) (Or.inl ⟨by rfl, ?_⟩) ?_ ?_
              rotate_left
              · intro w'
                go_simp
                with_reducible rfl
              rotate_left
              · simp only [Act.put, List.setIfInBounds_toArray, List.set_cons_zero, List.set_cons_succ, i64_w, i32_w]
                rfl
              refine take_ (i := 2) (N := some 78) (v := ?_) (a' := ?_) #[true, true, true, false, true, true, false, false, false, false] rfl rfl (by kernel_rfl) (fun _ _ _ h => h) (Or.inl ⟨by rfl, ?_⟩) hHeld ?_ ?_
              rotate_left
              · intro w' hw'
                have hz := (blk_cell hw' 1).trans rfl
                go_simp
                with_reducible rfl
              rotate_left
              · simp only [Act.put, List.setIfInBounds_toArray, List.set_cons_zero, List.set_cons_succ, i64_w, i32_w]
                rfl
              refine take_ (i := 6) (N := some 82) (v := ?_) (a' := ?_) #[true, true, true, false, true, true, true, false, false, false] rfl rfl (by kernel_rfl) (fun _ _ _ h => h) (Or.inl ⟨by rfl, ?_⟩) hHeld ?_ ?_
              rotate_left
              · intro w' hw'
                have hz := (blk_cell hw' 1).trans rfl
                go_simp
                with_reducible rfl
              rotate_left
              · simp only [Act.put, List.setIfInBounds_toArray, List.set_cons_zero, List.set_cons_succ, i64_w, i32_w]
                rfl
              refine one_ (i := 3) (N := some 79) #[true, true, true, true, true, true, true, false, false, false] rfl rfl (by kernel_rfl) (by decide) (fun K hK => ?_)
              refine goes_ Try.func63 (by kernel_rfl) rfl #[.pointer (some ⟨gr, 0, none⟩), .int .i64 a.f1] (by rfl) rfl rfl (by first | (simp only [List.map_toArray, List.map_cons, List.map_nil]; done) | (simp only [List.map_toArray, List.map_cons, List.map_nil]; rfl)) ?_
              refine (wire_Reader_Text.own (w0 := wa) (g := gr) (l := b.drop p) (e := e) a.f1 HTop.out (by exact HX.out.rd.below (below_drew (Below.refl _ _))) (by exact below_drew HX.out.rb)).mono ?_
              rintro en w8 ⟨he, hd⟩
              rw [HQ.out] at he hd
              subst he
              have HX2 := Aside0.mk ((HX.out.below (below_drew (Below.refl _ _))).r HG.out.1 HG.out.2.1 (by exact hd))
              have hkeep := hd.keep
              clear HX hd
              have HX := HX2
              clear HX2
              refine ⟨_, rfl, ?_⟩
              refine hK.out _ _ (hkeep.blk hHeld HNE.out.1 (by simp)) (fun hHeld => ?_)
              clear hK K
              refine norm_ (a' := ?_) ?_ ?_
              rotate_left
              · show Act.put _ (some 79) _ = _
                simp only [Act.put, List.setIfInBounds_toArray, List.set_cons_zero, List.set_cons_succ, i64_w, i32_w]
                rfl
              refine one_ (i := 7) (N := some 83) #[true, true, true, true, true, true, true, true, false, false] rfl rfl (by kernel_rfl) (by decide) (fun K hK => ?_)
              refine goes_ Try.func64 (by kernel_rfl) rfl #[.pointer (some ⟨gf, 0, none⟩), .int .i64 a.f1] (by rfl) rfl rfl (by first | (simp only [List.map_toArray, List.map_cons, List.map_nil]; done) | (simp only [List.map_toArray, List.map_cons, List.map_nil]; rfl)) ?_
              refine (ref05_Text.own (g := gf) (l := b) (at_ := (p : Int)) (e := e) ks a.f1 n (a2 : Int) e3 HX.out.r5 Z1.out Z5.out Z6.out (by have := HL.out; omega)).mono ?_
              rintro en w7 ⟨he, hd⟩
              rw [Z4.out] at he hd
              subst he
              have hkeep := hd.keep
              have HX2 := Aside0.mk (HX.out.f HG.out.1 HG.out.2.1 HG.out.2.2 Z3.out hd)
              clear HX hd
              have HX := HX2
              clear HX2
              refine ⟨_, rfl, ?_⟩
              refine hK.out _ _ (hkeep.blk hHeld HNE.out.2 (by simp)) (fun hHeld => ?_)
              clear hK K
              refine norm_ (a' := ?_) ?_ ?_
              rotate_left
              · show Act.put _ (some 83) _ = _
                simp only [Act.put, List.setIfInBounds_toArray, List.set_cons_zero, List.set_cons_succ, i64_w, i32_w]
                rfl
              refine pure_ (i := 8) (N := some 84) (v := ?_) (a' := ?_) #[true, true, true, true, true, true, true, true, true, false] rfl rfl (by kernel_rfl) (fun _ _ _ h => h) (Or.inl ⟨by rfl, ?_⟩) ?_ ?_
              rotate_left
              · intro w'
                go_simp
                with_reducible rfl
              rotate_left
              · simp only [Act.put, List.setIfInBounds_toArray, List.set_cons_zero, List.set_cons_succ, i64_w, i32_w]
                rfl
              refine pure_ (i := 9) (N := some 11) (v := ?_) (a' := ?_) #[true, true, true, true, true, true, true, true, true, true] rfl rfl (by kernel_rfl) (fun _ _ _ h => h) (Or.inl ⟨by rfl, ?_⟩) ?_ ?_
              rotate_left
              · intro w'
                go_simp
                with_reducible rfl
              rotate_left
              · simp only [Act.put, List.setIfInBounds_toArray, List.set_cons_zero, List.set_cons_succ, i64_w, i32_w]
                rfl
              refine done_ (by kernel_rfl) ?_
              go_wp2
              go_meet
              case rel => exact ⟨p2, e2, rfl, Z2.out, HX⟩
            by_cases k3 : a.f0 = 3
            · have b0 : (a.f0 == 0) = false := beq_eq_false_iff_ne.mpr k0
              have b1 : (a.f0 == 1) = false := beq_eq_false_iff_ne.mpr k1
              have b2 : (a.f0 == 2) = false := beq_eq_false_iff_ne.mpr k2
              have b3 : (a.f0 == 3) = true := beq_iff_eq.mpr k3
              clear k0 k1 k2 k3
              have p0 := (blk_cell XK.out 0).trans rfl
              have p1 := (blk_cell XK.out 1).trans rfl
              go_wp2_with (first
                | (go_at_call 65; refine (wire_Reader_Fail.own (w0 := wa) (g := gr) (l := b.drop p) (f1 := e) a.f1 HX.out.rd HX.out.rb).mono ?_; rintro en w8 ⟨rfl, hd⟩; have n4 := Aside0.mk (hd.keep.blk XK.out HNE.out.1 (by simp)); have HX2 := Aside0.mk (HX.out.r HG.out.1 HG.out.2.1 hd); clear HX hd XK; have HX := HX2; have XK := n4; clear HX2 n4 p0 p1; have p0 := (blk_cell XK.out 0).trans rfl; have p1 := (blk_cell XK.out 1).trans rfl)
                | (go_at_call 66; refine (ref05_Fail.own (g := gf) (l := b) (at_ := (p : Int)) (e := e) a.f1 HX.out.r5).mono ?_; rintro en w7 ⟨rfl, h1, h2, hkeep⟩; have HX2 := Aside0.mk (HX.out.f HG.out.1 HG.out.2.1 HG.out.2.2 rfl ⟨h1, h2, hkeep, Nat.le_of_lt HX.out.r5.lt⟩); clear HX h1 h2 hkeep; have HX := HX2; clear HX2))
              go_meet
              case rel => exact ⟨p, _, rfl, HP.out, HX⟩
            have b0 : (a.f0 == 0) = false := beq_eq_false_iff_ne.mpr k0
            have b1 : (a.f0 == 1) = false := beq_eq_false_iff_ne.mpr k1
            have b2 : (a.f0 == 2) = false := beq_eq_false_iff_ne.mpr k2
            have b3 : (a.f0 == 3) = false := beq_eq_false_iff_ne.mpr k3
            clear k0 k1 k2 k3
            have p0 := (blk_cell XK.out 0).trans rfl
            go_wp2
            go_meet
            case rel => exact ⟨p, e, rfl, HP.out, HX⟩
          case rest =>
            clear HX XK q0 q1 q2 HNE HTop HP
            obtain ⟨p2, e2, rfl, hp2, HX⟩ := hcut
            have HP2 := Aside0.mk hp2
            obtain ⟨A9, c9, hC9, hb9, hcz0, hcz1, hcz2, hf9⟩ := HX.out.r5.facts
            have hlen : (((b.drop p2).length : Nat) : Int) = (b.length : Int) - (p2 : Int) := by rw [List.length_drop]; omega
            obtain ⟨n9, hn9⟩ : ∃ n9 : Int, (((b.drop p2).length : Nat) : Int) = n9 := ⟨_, rfl⟩
            have HN9 := Aside0.mk hn9
            have hw9 : wrap64 ((b.length : Int) - (p2 : Int)) = n9 := by
              rw [← hn9, hlen]
              have := HL.out
              clear hn9 HN9 hlen
              unfold wrap64
              omega
            have hw9i : IntKind.i64.wrap ((b.length : Int) - (p2 : Int)) = n9 := (i64_w _).trans hw9
            have hl9 : (b.length : Int) - (p2 : Int) = n9 := hlen.symm.trans hn9
            have bn : (n9 != n9) = false := bne_self_eq_false n9
            have be : (e2 != e2) = false := bne_self_eq_false e2
            clear hC9 hb9 hf9 hp2 hlen hn9 hl9
            go_wp2
            refine start_ (n := 26) (S := fun w' => Below wc.heap.size wc w') (ds := []) #[false, false, false, false, false, false, false, false, false, false, false, false, false, false, false, false, false, false, false, false, false, false, false, false, false, false] (by kernel_rfl) rfl rfl (below_drew (Below.refl _ _)) (fun hHeld => ?_)
            refine pure_ (i := 0) (N := some 95) (v := ?_) (a' := ?_) #[true, false, false, false, false, false, false, false, false, false, false, false, false, false, false, false, false, false, false, false, false, false, false, false, false, false] rfl rfl (by kernel_rfl) (fun _ _ _ h => h) (Or.inl ⟨by rfl, ?_⟩) ?_ ?_
            rotate_left
            · intro w'
              go_simp
              with_reducible rfl
            rotate_left
            · simp only [Act.put, List.setIfInBounds_toArray, List.set_cons_zero, List.set_cons_succ, i64_w, i32_w]
              rfl
            refine pure_ (i := 1) (N := some 96) (v := ?_) (a' := ?_) #[true, true, false, false, false, false, false, false, false, false, false, false, false, false, false, false, false, false, false, false, false, false, false, false, false, false] rfl rfl (by kernel_rfl) (fun _ _ _ h => h) (Or.inl ⟨by rfl, ?_⟩) ?_ ?_
            rotate_left
            · intro w'
              go_simp
              with_reducible rfl
            rotate_left
            · simp only [Act.put, List.setIfInBounds_toArray, List.set_cons_zero, List.set_cons_succ, i64_w, i32_w]
              rfl
            refine pure_ (i := 2) (N := some 97) (v := ?_) (a' := ?_) #[true, true, true, false, false, false, false, false, false, false, false, false, false, false, false, false, false, false, false, false, false, false, false, false, false, false] rfl rfl (by kernel_rfl) (fun _ _ _ h => h) (Or.inl ⟨by rfl, ?_⟩) ?_ ?_
            rotate_left
            · intro w'
              go_simp
              with_reducible rfl
            rotate_left
            · simp only [Act.put, List.setIfInBounds_toArray, List.set_cons_zero, List.set_cons_succ, i64_w, i32_w]
              rfl
            refine pure_ (i := 3) (N := some 98) (v := ?_) (a' := ?_) #[true, true, true, true, false, false, false, false, false, false, false, false, false, false, false, false, false, false, false, false, false, false, false, false, false, false] rfl rfl (by kernel_rfl) (fun _ _ _ h => h) (Or.inl ⟨by rfl, ?_⟩) ?_ ?_
            rotate_left
            · intro w'
              go_simp
              with_reducible rfl
            rotate_left
            · simp only [Act.put, List.setIfInBounds_toArray, List.set_cons_zero, List.set_cons_succ, i64_w, i32_w]
              rfl
            refine pure_ (i := 5) (N := some 100) (v := ?_) (a' := ?_) #[true, true, true, true, false, true, false, false, false, false, false, false, false, false, false, false, false, false, false, false, false, false, false, false, false, false] rfl rfl (by kernel_rfl) (fun _ _ _ h => h) (Or.inl ⟨by rfl, ?_⟩) ?_ ?_
            rotate_left
            · intro w'
              go_simp
              with_reducible rfl
            rotate_left
            · simp only [Act.put, List.setIfInBounds_toArray, List.set_cons_zero, List.set_cons_succ, i64_w, i32_w]
              rfl
            refine pure_ (i := 6) (N := some 101) (v := ?_) (a' := ?_) #[true, true, true, true, false, true, true, false, false, false, false, false, false, false, false, false, false, false, false, false, false, false, false, false, false, false] rfl rfl (by kernel_rfl) (fun _ _ _ h => h) (Or.inl ⟨by rfl, ?_⟩) ?_ ?_
            rotate_left
            · intro w'
              go_simp
              with_reducible rfl
            rotate_left
            · simp only [Act.put, List.setIfInBounds_toArray, List.set_cons_zero, List.set_cons_succ, i64_w, i32_w]
              rfl
            refine pure_ (i := 7) (N := some 102) (v := ?_) (a' := ?_) #[true, true, true, true, false, true, true, true, false, false, false, false, false, false, false, false, false, false, false, false, false, false, false, false, false, false] rfl rfl (by kernel_rfl) (fun _ _ _ h => h) (Or.inl ⟨by rfl, ?_⟩) ?_ ?_
            rotate_left
            · intro w'
              go_simp
              with_reducible rfl
            rotate_left
            · simp only [Act.put, List.setIfInBounds_toArray, List.set_cons_zero, List.set_cons_succ, i64_w, i32_w]
              rfl
            refine pure_ (i := 10) (N := some 105) (v := ?_) (a' := ?_) #[true, true, true, true, false, true, true, true, false, false, true, false, false, false, false, false, false, false, false, false, false, false, false, false, false, false] rfl rfl (by kernel_rfl) (fun _ _ _ h => h) (Or.inl ⟨by rfl, ?_⟩) ?_ ?_
            rotate_left
            · intro w'
              go_simp
              with_reducible rfl
            rotate_left
            · simp only [Act.put, List.setIfInBounds_toArray, List.set_cons_zero, List.set_cons_succ, i64_w, i32_w]
              rfl
            refine pure_ (i := 11) (N := some 106) (v := ?_) (a' := ?_) #[true, true, true, true, false, true, true, true, false, false, true, true, false, false, false, false, false, false, false, false, false, false, false, false, false, false] rfl rfl (by kernel_rfl) (fun _ _ _ h => h) (Or.inl ⟨by rfl, ?_⟩) ?_ ?_
            rotate_left
            · intro w'
              go_simp
              with_reducible rfl
            rotate_left
            · simp only [Act.put, List.setIfInBounds_toArray, List.set_cons_zero, List.set_cons_succ, i64_w, i32_w]
              rfl
            refine pure_ (i := 12) (N := some 107) (v := ?_) (a' := ?_) #[true, true, true, true, false, true, true, true, false, false, true, true, true, false, false, false, false, false, false, false, false, false, false, false, false, false] rfl rfl (by kernel_rfl) (fun _ _ _ h => h) (Or.inl ⟨by rfl, ?_⟩) ?_ ?_
            rotate_left
            · intro w'
              go_simp
              with_reducible rfl
            rotate_left
            · simp only [Act.put, List.setIfInBounds_toArray, List.set_cons_zero, List.set_cons_succ, i64_w, i32_w]
              rfl
            refine take_ (i := 8) (N := some 103) (v := ?_) (a' := ?_) #[true, true, true, true, false, true, true, true, true, false, true, true, true, false, false, false, false, false, false, false, false, false, false, false, false, false] rfl rfl (by kernel_rfl) (fun _ _ _ h => h) (Or.inl ⟨by rfl, ?_⟩) hHeld ?_ ?_
            rotate_left
            · intro w' hw'
              have hz := pw_cell_below hw' hcz0
              go_simp
              with_reducible rfl
            rotate_left
            · simp only [Act.put, List.setIfInBounds_toArray, List.set_cons_zero, List.set_cons_succ, i64_w, i32_w]
              rfl
            refine pure_ (i := 9) (N := some 104) (v := ?_) (a' := ?_) #[true, true, true, true, false, true, true, true, true, true, true, true, true, false, false, false, false, false, false, false, false, false, false, false, false, false] rfl rfl (by kernel_rfl) (fun _ _ _ h => h) (Or.inl ⟨by rfl, ?_⟩) ?_ ?_
            rotate_left
            · intro w'
              go_simp
              with_reducible rfl
            rotate_left
            · simp only [Act.put, List.setIfInBounds_toArray, List.set_cons_zero, List.set_cons_succ, i64_w, i32_w]
              rfl
            refine take_ (i := 13) (N := some 108) (v := ?_) (a' := ?_) #[true, true, true, true, false, true, true, true, true, true, true, true, true, true, false, false, false, false, false, false, false, false, false, false, false, false] rfl rfl (by kernel_rfl) (fun _ _ _ h => h) (Or.inl ⟨by rfl, ?_⟩) hHeld ?_ ?_
            rotate_left
            · intro w' hw'
              have hz := pw_cell_below hw' hcz1
              go_simp
              with_reducible rfl
            rotate_left
            · simp only [Act.put, List.setIfInBounds_toArray, List.set_cons_zero, List.set_cons_succ, i64_w, i32_w]
              rfl
            refine pure_ (i := 14) (N := some 109) (v := ?_) (a' := ?_) #[true, true, true, true, false, true, true, true, true, true, true, true, true, true, true, false, false, false, false, false, false, false, false, false, false, false] rfl rfl (by kernel_rfl) (fun _ _ _ h => h) (Or.inl ⟨by rfl, ?_⟩) ?_ ?_
            rotate_left
            · intro w'
              go_simp
              with_reducible rfl
            rotate_left
            · simp only [Act.put, List.setIfInBounds_toArray, List.set_cons_zero, List.set_cons_succ, i64_w, i32_w]
              rfl
            refine one_ (i := 4) (N := some 99) #[true, true, true, true, true, true, true, true, true, true, true, true, true, true, true, false, false, false, false, false, false, false, false, false, false, false] rfl rfl (by kernel_rfl) (by decide) (fun K hK => ?_)
            refine goes_ Try.func67 (by kernel_rfl) rfl #[.pointer (some ⟨gr, 0, none⟩)] (by rfl) rfl rfl (by first | (simp only [List.map_toArray, List.map_cons, List.map_nil]; done) | (simp only [List.map_toArray, List.map_cons, List.map_nil]; rfl)) ?_
            refine (wire_Reader_Left.own (w0 := wa) (g := gr) (l := b.drop p2) (f1 := e2) (HX.out.rd.below hHeld)).mono ?_
            rintro en w8 ⟨rfl, hd⟩
            have hb8 := hd.below
            rw [HN9.out]
            refine ⟨_, rfl, ?_⟩
            refine hK.out _ _ (hHeld.trans ((hb8).mono hHeld.size)) (fun hHeld => ?_)
            clear hK K
            refine norm_ (a' := ?_) ?_ ?_
            rotate_left
            · show Act.put _ (some 99) _ = _
              simp only [Act.put, List.setIfInBounds_toArray, List.set_cons_zero, List.set_cons_succ, i64_w, i32_w]
              rfl
            refine pure_ (i := 15) (N := some 110) (v := ?_) (a' := ?_) #[true, true, true, true, true, true, true, true, true, true, true, true, true, true, true, true, false, false, false, false, false, false, false, false, false, false] rfl rfl (by kernel_rfl) (fun _ _ _ h => h) (Or.inl ⟨by rfl, ?_⟩) ?_ ?_
            rotate_left
            · intro w'
              go_simp
              with_reducible rfl
            rotate_left
            · simp only [Act.put, List.setIfInBounds_toArray, List.set_cons_zero, List.set_cons_succ, i64_w, i32_w]
              rfl
            refine pure_ (i := 16) (N := some 111) (v := ?_) (a' := ?_) #[true, true, true, true, true, true, true, true, true, true, true, true, true, true, true, true, true, false, false, false, false, false, false, false, false, false] rfl rfl (by kernel_rfl) (fun _ _ _ h => h) (Or.inl ⟨by rfl, ?_⟩) ?_ ?_
            rotate_left
            · intro w'
              go_simp
              with_reducible rfl
            rotate_left
            · simp only [Act.put, List.setIfInBounds_toArray, List.set_cons_zero, List.set_cons_succ, i64_w, i32_w]
              rfl
            refine pure_ (i := 17) (N := some 112) (v := ?_) (a' := ?_) #[true, true, true, true, true, true, true, true, true, true, true, true, true, true, true, true, true, true, false, false, false, false, false, false, false, false] rfl rfl (by kernel_rfl) (fun _ _ _ h => h) (Or.inl ⟨by rfl, ?_⟩) ?_ ?_
            rotate_left
            · intro w'
              go_simp
              with_reducible rfl
            rotate_left
            · simp only [Act.put, List.setIfInBounds_toArray, List.set_cons_zero, List.set_cons_succ, i64_w, i32_w]
              rfl
            refine pure_ (i := 18) (N := some 113) (v := ?_) (a' := ?_) #[true, true, true, true, true, true, true, true, true, true, true, true, true, true, true, true, true, true, true, false, false, false, false, false, false, false] rfl rfl (by kernel_rfl) (fun _ _ _ h => h) (Or.inl ⟨by rfl, ?_⟩) ?_ ?_
            rotate_left
            · intro w'
              go_simp
              with_reducible rfl
            rotate_left
            · simp only [Act.put, List.setIfInBounds_toArray, List.set_cons_zero, List.set_cons_succ, i64_w, i32_w]
              rfl
            refine pure_ (i := 20) (N := some 115) (v := ?_) (a' := ?_) #[true, true, true, true, true, true, true, true, true, true, true, true, true, true, true, true, true, true, true, false, true, false, false, false, false, false] rfl rfl (by kernel_rfl) (fun _ _ _ h => h) (Or.inl ⟨by rfl, ?_⟩) ?_ ?_
            rotate_left
            · intro w'
              go_simp
              with_reducible rfl
            rotate_left
            · simp only [Act.put, List.setIfInBounds_toArray, List.set_cons_zero, List.set_cons_succ, i64_w, i32_w]
              rfl
            refine pure_ (i := 21) (N := some 116) (v := ?_) (a' := ?_) #[true, true, true, true, true, true, true, true, true, true, true, true, true, true, true, true, true, true, true, false, true, true, false, false, false, false] rfl rfl (by kernel_rfl) (fun _ _ _ h => h) (Or.inl ⟨by rfl, ?_⟩) ?_ ?_
            rotate_left
            · intro w'
              go_simp
              with_reducible rfl
            rotate_left
            · simp only [Act.put, List.setIfInBounds_toArray, List.set_cons_zero, List.set_cons_succ, i64_w, i32_w]
              rfl
            refine pure_ (i := 22) (N := some 117) (v := ?_) (a' := ?_) #[true, true, true, true, true, true, true, true, true, true, true, true, true, true, true, true, true, true, true, false, true, true, true, false, false, false] rfl rfl (by kernel_rfl) (fun _ _ _ h => h) (Or.inl ⟨by rfl, ?_⟩) ?_ ?_
            rotate_left
            · intro w'
              go_simp
              with_reducible rfl
            rotate_left
            · simp only [Act.put, List.setIfInBounds_toArray, List.set_cons_zero, List.set_cons_succ, i64_w, i32_w]
              rfl
            refine take_ (i := 23) (N := some 118) (v := ?_) (a' := ?_) #[true, true, true, true, true, true, true, true, true, true, true, true, true, true, true, true, true, true, true, false, true, true, true, true, false, false] rfl rfl (by kernel_rfl) (fun _ _ _ h => h) (Or.inl ⟨by rfl, ?_⟩) hHeld ?_ ?_
            rotate_left
            · intro w' hw'
              have hz := pw_cell_below hw' hcz2
              go_simp
              with_reducible rfl
            rotate_left
            · simp only [Act.put, List.setIfInBounds_toArray, List.set_cons_zero, List.set_cons_succ, i64_w, i32_w]
              rfl
            refine one_ (i := 19) (N := some 114) #[true, true, true, true, true, true, true, true, true, true, true, true, true, true, true, true, true, true, true, true, true, true, true, true, false, false] rfl rfl (by kernel_rfl) (by decide) (fun K hK => ?_)
            refine goes_ Try.func68 (by kernel_rfl) rfl #[.pointer (some ⟨gr, 0, none⟩)] (by rfl) rfl rfl (by first | (simp only [List.map_toArray, List.map_cons, List.map_nil]; done) | (simp only [List.map_toArray, List.map_cons, List.map_nil]; rfl)) ?_
            refine (wire_Reader_Err.own (w0 := wa) (g := gr) (l := b.drop p2) (f1 := e2) (HX.out.rd.below hHeld)).mono ?_
            rintro en w7 ⟨rfl, hd⟩
            have hb7 := hd.below
            refine ⟨_, rfl, ?_⟩
            refine hK.out _ _ (hHeld.trans ((hb7).mono hHeld.size)) (fun hHeld => ?_)
            clear hK K
            refine norm_ (a' := ?_) ?_ ?_
            rotate_left
            · show Act.put _ (some 114) _ = _
              simp only [Act.put, List.setIfInBounds_toArray, List.set_cons_zero, List.set_cons_succ, i64_w, i32_w]
              rfl
            refine pure_ (i := 24) (N := some 119) (v := ?_) (a' := ?_) #[true, true, true, true, true, true, true, true, true, true, true, true, true, true, true, true, true, true, true, true, true, true, true, true, true, false] rfl rfl (by kernel_rfl) (fun _ _ _ h => h) (Or.inl ⟨by rfl, ?_⟩) ?_ ?_
            rotate_left
            · intro w'
              go_simp
              with_reducible rfl
            rotate_left
            · simp only [Act.put, List.setIfInBounds_toArray, List.set_cons_zero, List.set_cons_succ, i64_w, i32_w]
              rfl
            refine pure_ (i := 25) (N := some 120) (v := ?_) (a' := ?_) #[true, true, true, true, true, true, true, true, true, true, true, true, true, true, true, true, true, true, true, true, true, true, true, true, true, true] rfl rfl (by kernel_rfl) (fun _ _ _ h => h) (Or.inl ⟨by rfl, ?_⟩) ?_ ?_
            rotate_left
            · intro w'
              go_simp
              with_reducible rfl
            rotate_left
            · simp only [Act.put, List.setIfInBounds_toArray, List.set_cons_zero, List.set_cons_succ, i64_w, i32_w]
              rfl
            refine done_ (by kernel_rfl) ?_
            have HZ := Aside0.mk (HX.out.below hHeld)
            go_wp2
            go_roundg (l1.length - (kk + 1))
            case measure => exact R2.out
            case rel => exact ⟨kk + 1, p2, e2, R1.out, Nat.le_refl _, trivial, congrArg _ EW.out, HP2.out, HZ⟩
        · have bz : decide ((kk : Int) < (l1.length : Int)) = false := decide_eq_false (by omega)
          clear hlt hkk hg hp
          generalize (kk : Int) = i at bz ⊢
          go_wp2_with (go_at_call 52; refine (tombolalaw05_alive.own _).mono ?_; rintro e9 w9 ⟨rfl, hb⟩; have HA := Aside0.mk hb; clear hb)
          go_ret
          exact ⟨rfl, HX.out.wb.trans (HA.out.mono HX.out.wb.size)⟩
theorem mainWireReads (A0 : Option Addr) (c0 : Nat) (l0 : List Int) (A1 : Option Addr) (c1 : Nat) (l1 : List S89) (w : World) (hr0 : Kd.C (Kd.int .u8) w A0 l0.length l0) (hc0 : l0.length ≤ c0) (w0 : (∀ x, x ∈ l0 → (Lit.int .u8 x).wf = true) ∧ l0.length ≤ 9223372036854775807) {P : Prop} (_y0 : P) (hr1 : Kd.C k89 w A1 l1.length l1) (hc1 : l1.length ≤ c1) (w1 : (∀ x, x ∈ l1 → (Lit.int .i64 x.f0).wf = true ∧ (Lit.int .i64 x.f1).wf = true ∧ (Lit.int .u64 x.f2).wf = true) ∧ l1.length ≤ 9223372036854775807) :
    Calls Try.prog 11 #[.slice A0 l0.length c0, .slice A1 l1.length c1] w fun e w' => e = .returned (.bool true) ∧ Below w.heap.size w w' := by
  refine tombolalaw05_WireReads.calls A0 c0 l0 A1 c1 l1 w hr0 hc0 hr1 hc1 (fun x hx => ?_) (fun a ha => ?_)
  · have h2 : 0 ≤ x ∧ x ≤ 255 := by simpa [Lit.wf, IntKind.min, IntKind.max, IntKind.signed, IntKind.bits] using w0.1 x hx
    omega
  · have h2 : -9223372036854775808 ≤ a.f1 ∧ a.f1 ≤ 9223372036854775807 := by simpa [Lit.wf, IntKind.min, IntKind.max, IntKind.signed, IntKind.bits] using (w1.1 a ha).2.1
    exact h2.2
end Go.Proofs.Ytogdooclldoomaa.F
