import Derived.Test.YtogdooclldoomaaWireBack
import Derived.Test.YtogdooclldoomaaReg
namespace Go.Proofs.Ytogdooclldoomaa.F
open Go.RowKit Go.Proofs.YtogdooclldoomaaW.PrintWords Go.Proofs.YtogdooclldoomaaW.PrintLast Go.Proofs.YtogdooclldoomaaW.PrintMore
set_option linter.unusedSimpArgs false
set_option linter.unusedVariables false
set_option maxHeartbeats 16000000 in
set_option maxRecDepth 100000 in
theorem tombolalaw05_WirePuts.calls (A0 : Option Addr) (c0 : Nat) (b : List Int) (A1 : Option Addr) (c1 : Nat) (l : List Int) (s : ByteArray) (w : World) (hr0 : Kd.C (Kd.int .u8) w A0 b.length b) (hc0 : b.length ≤ c0) (hr1 : Kd.C (Kd.int .u64) w A1 l.length l) (hc1 : l.length ≤ c1) (hw1 : ∀ x ∈ l, 0 ≤ x ∧ x < 18446744073709551616) :
    Calls Try.prog 10 #[.slice A0 b.length c0, .slice A1 l.length c1, .string s] w fun e w' => e = .returned (.bool true) ∧ Below w.heap.size w w' := by
  have HR0 := Aside0.mk hr0
  have HC0 := Aside0.mk hc0
  have HR1 := Aside0.mk hr1
  have HC1 := Aside0.mk hc1
  have HW := Aside0.mk hw1
  clear hr0 hc0 hr1 hc1 hw1
  by_cases g0 : (b.length : Int) > 300
  · have b0 : decide ((300 : Int) < (b.length : Int)) = true := decide_eq_true g0
    clear g0
    go_enter Try.func10, Try.ntmps10
    go_wp2_with (go_at_call 52; refine (tombolalaw05_alive.own _).mono ?_; rintro e w9 ⟨rfl, hb⟩; have HA := Aside0.mk hb; clear hb)
    go_ret
    exact ⟨rfl, HA.out⟩
  have b0 : decide ((300 : Int) < (b.length : Int)) = false := decide_eq_false g0
  by_cases g1 : (l.length : Int) > 50
  · have b1 : decide ((50 : Int) < (l.length : Int)) = true := decide_eq_true g1
    clear g0 g1
    go_enter Try.func10, Try.ntmps10
    go_wp2_with (go_at_call 52; refine (tombolalaw05_alive.own _).mono ?_; rintro e w9 ⟨rfl, hb⟩; have HA := Aside0.mk hb; clear hb)
    go_ret
    exact ⟨rfl, HA.out⟩
  have b1 : decide ((50 : Int) < (l.length : Int)) = false := decide_eq_false g1
  by_cases g2 : (s.size : Int) > 300
  · have b2 : decide ((300 : Int) < (s.size : Int)) = true := decide_eq_true g2
    clear g0 g1 g2
    go_enter Try.func10, Try.ntmps10
    go_wp2_with (go_at_call 52; refine (tombolalaw05_alive.own _).mono ?_; rintro e w9 ⟨rfl, hb⟩; have HA := Aside0.mk hb; clear hb)
    go_ret
    exact ⟨rfl, HA.out⟩
  have b2 : decide ((300 : Int) < (s.size : Int)) = false := decide_eq_false g2
  have HL : Aside0 (b.length ≤ 300 ∧ l.length ≤ 50 ∧ s.size ≤ 300) := ⟨by omega, by omega, by omega⟩
  clear g0 g1 g2
  obtain ⟨k1, hk1⟩ := put_all b l (by have := HL.out; omega) (by have := HL.out; omega) HW.out
  obtain ⟨k2, hk2⟩ := putText_all b s (by have := HL.out; omega) (by have := HL.out; omega)
  have hk3 := refputText b s (by have := HL.out; omega) (by have := HL.out; omega)
  obtain ⟨E1, hE1⟩ : ∃ E1, b ++ l.flatMap enc = E1 := ⟨_, rfl⟩
  obtain ⟨E2, hE2⟩ : ∃ E2, b ++ enc (s.size : Int) ++ bytesOf s = E2 := ⟨_, rfl⟩
  rw [hE1] at hk1
  rw [hE2] at hk2 hk3
  have K1 := Aside0.mk hk1
  have K2 := Aside0.mk hk2
  have K3 := Aside0.mk hk3
  have Q1 := Aside0.mk hE1
  clear hk1 hk2 hk3 hE1 hE2
  go_enter Try.func10, Try.ntmps10
  go_wp2_with (first
    | ((with_reducible refine gate_dst (N := 23) rfl ?_);(try (refine gate_guard (by rfl) ?_;dsimp only));refine Kd.R_lit (Kd.int .u8) _ 5 ?hg (N := 23) ?hd (xs := ([] : List Int)) (inner := []) (ok := fun _ => True) (okp := fun _ => True) ?hr ?hp (fun _ hk => hk) trivial (Below.refl _ _) (Nat.le_refl _) (by simp) ?_;(case hd => rfl);(case hg => rfl);(case hr => first|(go_simp;done)|(go_simp;rfl));(case hp => exact (Reps.none _ _));intro v1 w1 ho1 hb1 hg_ hnew_;clear hg_ hnew_;have HB := Aside0.mk hb1;have HO := Aside0.mk ho1;clear hb1 ho1)
    | ((with_reducible refine gate_builtin (b := .append) (xs := #[.tmp 23, .tmp 24]) rfl ?_);(try (refine gate_guard (by rfl) ?_;dsimp only));at_builtin;refine Kd.R_append_rows (Kd.int .u8) (w0 := w) w.heap.size rfl (.tmp 23) (.tmp 24) 78 5 (.int .u8 0) 1 rfl Try.underlying78 info5 rfl (by decide) (by omega) v1 [] b _ _ _ (fun _ => True) (fun _ => False) rfl rfl ?aO ?aR (fun _ _ h => h) (fun _ h => h.elim) ?aF ?aB ?aS ?aL ?_;(case aR => exact Kd.C_below HR0.out HB.out);(case aB => exact HB.out);(case aF => exact (fun _ _ => trivial));(case aO => exact HO.out);(case aS => exact HB.out.size);(case aL => have := HL.out;simp only [List.length_nil];omega);intro v2 w2 ho hb hg hat;clear HB HO;have HB := Aside0.mk (hb);have HO := Aside0.mk (show Kd.R (Kd.int .u8) 5 w2 w.heap.size (fun _ => True) v2 b from ho);clear hb ho hg hat))
  go_loopg [7, 8] l.length (fun gg s7 s8 wx => ∃ (kk : Nat) (v : Value) (L : List Int), kk ≤ l.length ∧ l.length - kk ≤ gg ∧ s7 = v ∧ s8 = .int .i64 (kk : Int) ∧ Aside0 (L = b ++ (l.take kk).flatMap enc) ∧ Aside0 (Kd.R (Kd.int .u8) 5 wx w.heap.size (fun _ => True) v L) ∧ Aside0 (Below w.heap.size w wx))
  case atStart => exact ⟨0, v2, b, Nat.zero_le _, by omega, rfl, rfl, ⟨by simp⟩, HO, HB⟩
  case round =>
    clear HO HB
    obtain ⟨kk, v, L, hkk, hg, rfl, rfl, QL, HO, HB⟩ := hrel
    by_cases hlt : kk < l.length
    · have hltz : (kk : Int) < (l.length : Int) := by omega
      have hkz : 0 ≤ (kk : Int) := by omega
      have cz : decide ((kk : Int) < (l.length : Int)) = true := decide_eq_true hltz
      obtain ⟨ad, rfl, hx0⟩ := Kd.at_int HR1.out (kk : Int) hkz hltz
      have hx := pw_cell_below HB.out hx0
      have hmem := HW.out l[kk] (List.getElem_mem hlt)
      rw [show l[kk] = rd l (kk : Int) by simp [rd, hlt]] at hmem
      have hlen : L.length ≤ 1000 := by
        rw [QL.out]
        have h1 := flat_len (l.take kk)
        have h2 := HL.out
        rw [List.length_take] at h1
        rw [List.length_append]
        omega
      have KP := Aside0.mk (refput L (rd l (kk : Int)) hmem.1 hmem.2 (by omega))
      have Q2 : Aside0 (L ++ enc (rd l (kk : Int)) = b ++ (l.take (kk + 1)).flatMap enc) := ⟨by
        rw [QL.out, List.take_succ_eq_append_getElem hlt, List.flatMap_append, List.append_assoc, show rd l (kk : Int) = l[kk] by simp [rd, hlt]]
        simp⟩
      have EW : Aside0 (wrap64 ((kk : Int) + 1) = ((kk + 1 : Nat) : Int)) := ⟨by have := HL.out; unfold wrap64; omega⟩
      have R1 : Aside0 (kk + 1 ≤ l.length) := ⟨hlt⟩
      have R2 : Aside0 (l.length - (kk + 1) < gk) := ⟨by omega⟩
      clear hx0 hlen hmem
      obtain ⟨i, hi⟩ : ∃ i : Int, (kk : Int) = i := ⟨_, rfl⟩
      rw [hi] at hltz hkz cz hx KP EW Q2
      rw [hi]
      generalize rd l i = x at hx KP Q2
      replace hkz := eq_true hkz
      replace hltz := eq_true hltz
      obtain ⟨AL, cL, rfl⟩ := Kd.R_slice HO.out
      clear hlt hkk hg
      go_wp2_with (go_at_call 53; refine (tombolaref05_Put.calls 10 (fun k => w.heap.size ≤ k) _ L x (L ++ enc x) w wr HB.out (Kd.R_mono (Kd.R_bound HO.out) (fun k hk => hk.2.1)) KP.out).mono ?_; rintro e w9 ⟨v9, rfl, hR, hb, hk⟩; have HD := Aside0.mk (Kd.R_mono hR (fun _ _ => trivial) : Kd.R (Kd.int .u8) 5 w9 w.heap.size (fun _ => True) v9 (L ++ enc x)); have HE := Aside0.mk hb; clear hR hb hk)
      go_roundg (l.length - (kk + 1))
      case measure => exact R2.out
      case rel => exact ⟨kk + 1, v9, L ++ enc x, R1.out, Nat.le_refl _, rfl, congrArg _ (by rw [← EW.out]), Q2, HD, HE⟩
    · have cz : decide ((kk : Int) < (l.length : Int)) = false := decide_eq_false (by omega)
      obtain rfl : kk = l.length := by omega
      have QE : Aside0 (L = E1) := ⟨by rw [QL.out, List.take_length, Q1.out]⟩
      obtain ⟨AL, cL, rfl, hcL, hCL⟩ := Kd.R_reads HO.out
      have CL : Aside0 (∀ W, Below wr.heap.size wr W → (convert 78 9 (.slice AL L.length cL)).run Try.prog W = .ok (.string (strOfNums E1)) W) := ⟨fun W hW => by rw [← QE.out]; exact Kd.C_string Try.underlying78 Try.underlying5 Try.underlying9 (Kd.C_below hCL hW)⟩
      have cv7 := CL.out wr.drew (below_drew (Below.refl _ _))
      clear hlt hkk hg hcL hCL
      go_wp2
      -- REGION
      refine start_ (n := 24) (S := fun w' => Below wr.heap.size wr w') (ds := []) #[false, false, false, false, false, false, false, false, false, false, false, false, false, false, false, false, false, false, false, false, false, false, false, false] (by kernel_rfl) rfl rfl (below_drew (Below.refl _ _)) (fun hHeld => ?_)
      refine pure_ (i := 0) (N := some 38) (v := ?_) (a' := ?_) #[true, false, false, false, false, false, false, false, false, false, false, false, false, false, false, false, false, false, false, false, false, false, false, false] rfl rfl (by kernel_rfl) (fun _ _ _ h => h) (Or.inl ⟨by rfl, ?_⟩) ?_ ?_
      rotate_left
      · intro w'
        go_simp
        with_reducible rfl
      rotate_left
      · simp only [Act.put, List.setIfInBounds_toArray, List.set_cons_zero, List.set_cons_succ, i64_w, i32_w]
        rfl
      refine pure_ (i := 1) (N := some 39) (v := ?_) (a' := ?_) #[true, true, false, false, false, false, false, false, false, false, false, false, false, false, false, false, false, false, false, false, false, false, false, false] rfl rfl (by kernel_rfl) (fun _ _ _ h => h) (Or.inl ⟨by rfl, ?_⟩) ?_ ?_
      rotate_left
      · intro w'
        go_simp
        with_reducible rfl
      rotate_left
      · simp only [Act.put, List.setIfInBounds_toArray, List.set_cons_zero, List.set_cons_succ, i64_w, i32_w]
        rfl
      refine pure_ (i := 4) (N := some 42) (v := ?_) (a' := ?_) #[true, true, false, false, true, false, false, false, false, false, false, false, false, false, false, false, false, false, false, false, false, false, false, false] rfl rfl (by kernel_rfl) (fun _ _ _ h => h) (Or.inl ⟨by rfl, ?_⟩) ?_ ?_
      rotate_left
      · intro w'
        go_simp
        with_reducible rfl
      rotate_left
      · simp only [Act.put, List.setIfInBounds_toArray, List.set_cons_zero, List.set_cons_succ, i64_w, i32_w]
        rfl
      refine take_ (i := 5) (N := some 43) (v := ?_) (a' := ?_) #[true, true, false, false, true, true, false, false, false, false, false, false, false, false, false, false, false, false, false, false, false, false, false, false] rfl rfl (by kernel_rfl) (fun _ _ _ h => h) (Or.inl ⟨by rfl, ?_⟩) hHeld ?_ ?_
      rotate_left
      · intro w' hw'
        have cv := CL.out w' hw'
        go_simp
        with_reducible rfl
      rotate_left
      · simp only [Act.put, List.setIfInBounds_toArray, List.set_cons_zero, List.set_cons_succ, i64_w, i32_w]
        rfl
      refine one_ (i := 2) (N := some 40) #[true, true, true, false, true, true, false, false, false, false, false, false, false, false, false, false, false, false, false, false, false, false, false, false] rfl rfl (by kernel_rfl) (by decide) (fun K hK => ?_)
      refine goes_ Try.func54 (by kernel_rfl) rfl #[.slice A0 b.length c0, .slice A1 l.length c1] (by rfl) rfl rfl (by first | (simp only [List.map_toArray, List.map_cons, List.map_nil]; done) | (simp only [List.map_toArray, List.map_cons, List.map_nil]; rfl)) ?_
      refine (wire_Put.calls k1 A0 c0 b A1 c1 l E1 _ (Kd.C_below HR0.out (HB.out.trans (hHeld.mono HB.out.size))) HC0.out (Kd.C_below HR1.out (HB.out.trans (hHeld.mono HB.out.size))) HC1.out K1.out).mono ?_
      rintro e w9 ⟨v9, rfl, hR9, hb9⟩
      obtain ⟨A9, c9, rfl⟩ := Kd.R_slice hR9
      refine ⟨_, rfl, ?_⟩
      refine hK.out _ _ (hHeld.trans ((hb9).mono hHeld.size)) (fun hHeld => ?_)
      clear hK K
      refine norm_ (a' := ?_) ?_ ?_
      rotate_left
      · show Act.put _ (some 40) _ = _
        simp only [Act.put, List.setIfInBounds_toArray, List.set_cons_zero, List.set_cons_succ, i64_w, i32_w]
        rfl
      have Fw9 := Aside0.mk hHeld
      refine one_ (i := 3) (N := some 41) #[true, true, true, true, true, true, false, false, false, false, false, false, false, false, false, false, false, false, false, false, false, false, false, false] rfl rfl (by kernel_rfl) (by decide) (fun K hK => ?_)
      have cv := Kd.C_string (P := Try.prog) Try.underlying78 Try.underlying5 Try.underlying9 (c := c9) (Kd.R_reads' hR9).2.2
      refine value_ (w1 := ?_) (v := ?_) (by rfl) rfl ?_ ?_
      rotate_left 2
      · go_simp
        constructor
        · rfl
        · rfl
      refine hK.out _ _ (hHeld.trans ((Below.refl _ _).mono hHeld.size)) (fun hHeld => ?_)
      clear hK K
      refine norm_ (a' := ?_) ?_ ?_
      rotate_left
      · show Act.put _ (some 41) _ = _
        simp only [Act.put, List.setIfInBounds_toArray, List.set_cons_zero, List.set_cons_succ, i64_w, i32_w]
        rfl
      refine pure_ (i := 6) (N := some 44) (v := ?_) (a' := ?_) #[true, true, true, true, true, true, true, false, false, false, false, false, false, false, false, false, false, false, false, false, false, false, false, false] rfl rfl (by kernel_rfl) (fun _ _ _ h => h) (Or.inl ⟨by rfl, ?_⟩) ?_ ?_
      rotate_left
      · intro w'
        go_simp
        with_reducible rfl
      rotate_left
      · simp only [Act.put, List.setIfInBounds_toArray, List.set_cons_zero, List.set_cons_succ, i64_w, i32_w]
        rfl
      refine pure_ (i := 7) (N := some 45) (v := ?_) (a' := ?_) #[true, true, true, true, true, true, true, true, false, false, false, false, false, false, false, false, false, false, false, false, false, false, false, false] rfl rfl (by kernel_rfl) (fun _ _ _ h => h) (Or.inl ⟨by rfl, ?_⟩) ?_ ?_
      rotate_left
      · intro w'
        go_simp
        with_reducible rfl
      rotate_left
      · simp only [Act.put, List.setIfInBounds_toArray, List.set_cons_zero, List.set_cons_succ, i64_w, i32_w]
        rfl
      refine pure_ (i := 8) (N := some 46) (v := ?_) (a' := ?_) #[true, true, true, true, true, true, true, true, true, false, false, false, false, false, false, false, false, false, false, false, false, false, false, false] rfl rfl (by kernel_rfl) (fun _ _ _ h => h) (Or.inl ⟨by rfl, ?_⟩) ?_ ?_
      rotate_left
      · intro w'
        go_simp
        with_reducible rfl
      rotate_left
      · simp only [Act.put, List.setIfInBounds_toArray, List.set_cons_zero, List.set_cons_succ, i64_w, i32_w]
        rfl
      refine pure_ (i := 9) (N := some 47) (v := ?_) (a' := ?_) #[true, true, true, true, true, true, true, true, true, true, false, false, false, false, false, false, false, false, false, false, false, false, false, false] rfl rfl (by kernel_rfl) (fun _ _ _ h => h) (Or.inl ⟨by rfl, ?_⟩) ?_ ?_
      rotate_left
      · intro w'
        go_simp
        with_reducible rfl
      rotate_left
      · simp only [Act.put, List.setIfInBounds_toArray, List.set_cons_zero, List.set_cons_succ, i64_w, i32_w]
        rfl
      refine pure_ (i := 13) (N := some 51) (v := ?_) (a' := ?_) #[true, true, true, true, true, true, true, true, true, true, false, false, false, true, false, false, false, false, false, false, false, false, false, false] rfl rfl (by kernel_rfl) (fun _ _ _ h => h) (Or.inl ⟨by rfl, ?_⟩) ?_ ?_
      rotate_left
      · intro w'
        go_simp
        with_reducible rfl
      rotate_left
      · simp only [Act.put, List.setIfInBounds_toArray, List.set_cons_zero, List.set_cons_succ, i64_w, i32_w]
        rfl
      refine pure_ (i := 15) (N := some 53) (v := ?_) (a' := ?_) #[true, true, true, true, true, true, true, true, true, true, false, false, false, true, false, true, false, false, false, false, false, false, false, false] rfl rfl (by kernel_rfl) (fun _ _ _ h => h) (Or.inl ⟨by rfl, ?_⟩) ?_ ?_
      rotate_left
      · intro w'
        go_simp
        with_reducible rfl
      rotate_left
      · simp only [Act.put, List.setIfInBounds_toArray, List.set_cons_zero, List.set_cons_succ, i64_w, i32_w]
        rfl
      refine two_ (i := 10) (j := 12) (Ni := some 48) (Nj := some 50) #[true, true, true, true, true, true, true, true, true, true, true, false, false, true, false, true, false, false, false, false, false, false, false, false] #[true, true, true, true, true, true, true, true, true, true, false, false, true, true, false, true, false, false, false, false, false, false, false, false] rfl rfl rfl rfl (by kernel_rfl) (by decide) (by decide) (fun K hK => ?_) (fun K hK => ?_)
      · skip
        refine goes_ Try.func55 (by kernel_rfl) rfl #[.slice A0 b.length c0, .string s] (by rfl) rfl rfl (by first | (simp only [List.map_toArray, List.map_cons, List.map_nil]; done) | (simp only [List.map_toArray, List.map_cons, List.map_nil]; rfl)) ?_
        refine (wire_PutText.calls k2 A0 c0 b s E2 _ (Kd.C_below HR0.out (HB.out.trans (hHeld.mono HB.out.size))) HC0.out K2.out).mono ?_
        rintro e w8 ⟨v8, rfl, hR8, hb8⟩
        obtain ⟨A8, c8, rfl⟩ := Kd.R_slice hR8
        refine ⟨_, rfl, ?_⟩
        refine hK.out _ _ (hHeld.trans ((hb8).mono hHeld.size)) (fun hHeld => ?_)
        clear hK K
        refine norm_ (a' := ?_) ?_ ?_
        rotate_left
        · show Act.put _ (some 48) _ = _
          simp only [Act.put, List.setIfInBounds_toArray, List.set_cons_zero, List.set_cons_succ, i64_w, i32_w]
          rfl
        have hS2 : Below wr.heap.size wr w8 ∧ Kd.R (Kd.int .u8) 5 w8 w9.heap.size (fun _ => True) (.slice A8 E2.length c8) E2 := ⟨hHeld, hR8⟩
        refine last_mono (S2 := fun w' => Below wr.heap.size wr w' ∧ Kd.R (Kd.int .u8) 5 w' w9.heap.size (fun _ => True) (.slice A8 E2.length c8) E2) hS2 (fun w' h => h.1) ?_
        clear hHeld
        have hHeld := hS2
        clear hS2
        have Fw8 := Aside0.mk hHeld.1
        refine take_ (i := 11) (N := some 49) (v := ?_) (a' := ?_) #[true, true, true, true, true, true, true, true, true, true, true, true, false, true, false, true, false, false, false, false, false, false, false, false] rfl rfl (by kernel_rfl) (fun _ _ _ h => h) (Or.inl ⟨by rfl, ?_⟩) hHeld ?_ ?_
        rotate_left
        · intro w' hw'
          have cv := Kd.C_string (P := Try.prog) Try.underlying78 Try.underlying5 Try.underlying9 (c := c8) (Kd.R_reads' hw'.2).2.2
          go_simp
          with_reducible rfl
        rotate_left
        · simp only [Act.put, List.setIfInBounds_toArray, List.set_cons_zero, List.set_cons_succ, i64_w, i32_w]
          rfl
        refine one_ (i := 12) (N := some 50) #[true, true, true, true, true, true, true, true, true, true, true, true, true, true, false, true, false, false, false, false, false, false, false, false] rfl rfl (by kernel_rfl) (by decide) (fun K hK => ?_)
        refine Kd.R_lit_step (w0 := w8) (Kd.int .u8) w8.heap.size 5 (by rfl) (N := 50) rfl (xs := ([] : List Int)) (inner := []) (ok := fun _ => True) (okp := fun _ => True) ?hr ?hp (fun _ hk => hk) trivial (Below.refl _ _) (Nat.le_refl _) (by simp) ?_
        (case hr => first|(go_simp;done)|(go_simp;rfl))
        (case hp => exact Reps.none _ _)
        intro v5 w5 ho5 hbl hgl hnl
        refine hK.out _ _ ⟨(hHeld.1.trans ((hbl).mono hHeld.1.size)), (Kd.R_below hHeld.2 (hbl))⟩ (fun hHeld => ?_)
        clear hK K
        refine norm_ (a' := ?_) ?_ ?_
        rotate_left
        · show Act.put _ (some 50) _ = _
          simp only [Act.put, List.setIfInBounds_toArray, List.set_cons_zero, List.set_cons_succ, i64_w, i32_w]
          rfl
        have HO5 := Aside0.mk ho5
        have HBl := Aside0.mk hbl
        have HO6 := HO5
        have HB6 := HBl
        refine one_ (i := 14) (N := some 52) #[true, true, true, true, true, true, true, true, true, true, true, true, true, true, true, true, false, false, false, false, false, false, false, false] rfl rfl (by kernel_rfl) (by decide) (fun K hK => ?_)
        have hlt5 : ∀ k, v5.ownBlock = some k → w8.heap.size ≤ k ∧ k < w5.heap.size := fun k hk => ⟨Kd.R_base HO5.out k hk, Kd.R_lt HO5.out k hk⟩
        refine Kd.R_append_rows_step (Kd.int .u8) (w0 := w8) w8.heap.size (by rfl) (.tmp 50) (.tmp 51) 78 5 (.int .u8 0) 1 (by rfl) Try.underlying78 info5 rfl (by decide) (by omega) v5 [] b _ _ _ (fun _ => True) (fun _ => False) (by rfl) (by rfl) ?aO ?aR (fun _ _ h => h) (fun _ h => h.elim) ?aF ?aB ?aS ?aL ?_
        (case aR => exact Kd.C_below HR0.out (HB.out.trans (hHeld.1.mono HB.out.size)))
        (case aB => exact HB6.out)
        (case aF => exact (fun _ _ => trivial))
        (case aO => exact HO6.out)
        (case aS => exact HB6.out.size)
        (case aL => have := HL.out;simp only [List.length_nil];omega)
        intro v6 w6 ho6 hb6 hg6 hat6
        refine hK.out _ _ ⟨(Fw8.out.trans (hb6.mono Fw8.out.size)), (Kd.R_grown1 hHeld.2 rfl hg6 (fun e => by obtain ⟨k, hk⟩ : ∃ k, v5.ownBlock = some k := hnl.imp (fun _ h => h.1); have h1 := hlt5 k hk; rw [hk] at e; have h2 := Kd.R_lt hR8 k e.symm; omega))⟩ (fun hHeld => ?_)
        clear hK K
        refine norm_ (a' := ?_) ?_ ?_
        rotate_left
        · show Act.put _ (some 52) _ = _
          simp only [Act.put, List.setIfInBounds_toArray, List.set_cons_zero, List.set_cons_succ, i64_w, i32_w]
          rfl
        have ho6 : Kd.R (Kd.int .u8) 5 w6 w8.heap.size (fun _ => True) v6 b := ho6
        have hr6 := hHeld.2
        have hat := hat6
        refine one_ (i := 16) (N := some 54) #[true, true, true, true, true, true, true, true, true, true, true, true, true, true, true, true, true, false, false, false, false, false, false, false] rfl rfl (by kernel_rfl) (by decide) (fun K hK => ?_)
        have hv6 : ∀ k, v6.ownBlock = some k → w8.heap.size ≤ k := fun k hk => Kd.R_base ho6 k hk
        refine goes_ Try.func56 (by kernel_rfl) rfl #[v6, .string s] (by rfl) rfl rfl (by first | (simp only [List.map_toArray, List.map_cons, List.map_nil]; done) | (simp only [List.map_toArray, List.map_cons, List.map_nil]; rfl)) ?_
        refine (tombolaref05_PutText.calls 1020 (fun k => some k = v6.ownBlock) v6 b s E2 w8 w6 hb6 (Kd.R_tight rfl ho6) K3.out).mono ?_
        rintro e w7 ⟨v7, rfl, hR7, hb7, hk7⟩
        obtain ⟨A7, c7, rfl⟩ := Kd.R_slice hR7
        refine ⟨_, rfl, ?_⟩
        refine hK.out _ _ ⟨(Fw8.out.trans (hb7.mono Fw8.out.size)), (Kd.R_step (Kd.R_tight rfl hHeld.2) (fun k e hlt => hk7.2 k hlt (fun hk => hat6.elim (fun h => by obtain ⟨q, hq⟩ : ∃ q, v5.ownBlock = some q := hnl.imp (fun _ h => h.1); have h1 := hlt5 q hq; rw [h, hq] at hk; injection hk with hk; have h2 := Kd.R_lt hR8 k e.symm; omega) (fun ⟨q, hq, hge⟩ => by rw [hq] at hk; injection hk with hk; have h2 := Kd.R_lt hR8 k e.symm; have h3 := HBl.out.size; omega))) |> fun h => Kd.R_mono h (fun _ _ => trivial))⟩ (fun hHeld => ?_)
        clear hK K
        refine norm_ (a' := ?_) ?_ ?_
        rotate_left
        · show Act.put _ (some 54) _ = _
          simp only [Act.put, List.setIfInBounds_toArray, List.set_cons_zero, List.set_cons_succ, i64_w, i32_w]
          rfl
        refine one_ (i := 17) (N := some 55) #[true, true, true, true, true, true, true, true, true, true, true, true, true, true, true, true, true, true, false, false, false, false, false, false] rfl rfl (by kernel_rfl) (by decide) (fun K hK => ?_)
        have cv7 := Kd.C_string (P := Try.prog) Try.underlying78 Try.underlying5 Try.underlying9 (c := c7) (Kd.R_reads' hR7).2.2
        refine value_ (w1 := ?_) (v := ?_) (by rfl) rfl ?_ ?_
        rotate_left 2
        · go_simp
          constructor
          · rfl
          · rfl
        refine hK.out _ _ ⟨(hHeld.1.trans ((Below.refl _ _).mono hHeld.1.size)), (Kd.R_below hHeld.2 (Below.refl _ _))⟩ (fun hHeld => ?_)
        clear hK K
        refine norm_ (a' := ?_) ?_ ?_
        rotate_left
        · show Act.put _ (some 55) _ = _
          simp only [Act.put, List.setIfInBounds_toArray, List.set_cons_zero, List.set_cons_succ, i64_w, i32_w]
          rfl
        refine pure_ (i := 18) (N := some 56) (v := ?_) (a' := ?_) #[true, true, true, true, true, true, true, true, true, true, true, true, true, true, true, true, true, true, true, false, false, false, false, false] rfl rfl (by kernel_rfl) (fun _ _ _ h => h) (Or.inl ⟨by rfl, ?_⟩) ?_ ?_
        rotate_left
        · intro w'
          go_simp
          with_reducible rfl
        rotate_left
        · simp only [Act.put, List.setIfInBounds_toArray, List.set_cons_zero, List.set_cons_succ, i64_w, i32_w]
          rfl
        refine pure_ (i := 19) (N := some 57) (v := ?_) (a' := ?_) #[true, true, true, true, true, true, true, true, true, true, true, true, true, true, true, true, true, true, true, true, false, false, false, false] rfl rfl (by kernel_rfl) (fun _ _ _ h => h) (Or.inl ⟨by rfl, ?_⟩) ?_ ?_
        rotate_left
        · intro w'
          go_simp
          with_reducible rfl
        rotate_left
        · simp only [Act.put, List.setIfInBounds_toArray, List.set_cons_zero, List.set_cons_succ, i64_w, i32_w]
          rfl
        refine pure_ (i := 20) (N := some 58) (v := ?_) (a' := ?_) #[true, true, true, true, true, true, true, true, true, true, true, true, true, true, true, true, true, true, true, true, true, false, false, false] rfl rfl (by kernel_rfl) (fun _ _ _ h => h) (Or.inl ⟨by rfl, ?_⟩) ?_ ?_
        rotate_left
        · intro w'
          go_simp
          with_reducible rfl
        rotate_left
        · simp only [Act.put, List.setIfInBounds_toArray, List.set_cons_zero, List.set_cons_succ, i64_w, i32_w]
          rfl
        refine one_ (i := 21) (N := some 59) #[true, true, true, true, true, true, true, true, true, true, true, true, true, true, true, true, true, true, true, true, true, true, false, false] rfl rfl (by kernel_rfl) (by decide) (fun K hK => ?_)
        refine goes_ Try.func52 (by kernel_rfl) rfl #[] (by rfl) rfl rfl (by first | (simp only [List.map_toArray, List.map_cons, List.map_nil]; done) | (simp only [List.map_toArray, List.map_cons, List.map_nil]; rfl)) ?_
        refine (tombolalaw05_alive.own _).mono ?_
        rintro e w4 ⟨rfl, hb4⟩
        refine ⟨_, rfl, ?_⟩
        refine hK.out _ _ ⟨(hHeld.1.trans ((hb4).mono hHeld.1.size)), (Kd.R_below hHeld.2 (hb4))⟩ (fun hHeld => ?_)
        clear hK K
        refine norm_ (a' := ?_) ?_ ?_
        rotate_left
        · show Act.put _ (some 59) _ = _
          simp only [Act.put, List.setIfInBounds_toArray, List.set_cons_zero, List.set_cons_succ, i64_w, i32_w]
          rfl
        refine pure_ (i := 22) (N := some 60) (v := ?_) (a' := ?_) #[true, true, true, true, true, true, true, true, true, true, true, true, true, true, true, true, true, true, true, true, true, true, true, false] rfl rfl (by kernel_rfl) (fun _ _ _ h => h) (Or.inl ⟨by rfl, ?_⟩) ?_ ?_
        rotate_left
        · intro w'
          go_simp
          with_reducible rfl
        rotate_left
        · simp only [Act.put, List.setIfInBounds_toArray, List.set_cons_zero, List.set_cons_succ, i64_w, i32_w]
          rfl
        refine pure_ (i := 23) (N := some 6) (v := ?_) (a' := ?_) #[true, true, true, true, true, true, true, true, true, true, true, true, true, true, true, true, true, true, true, true, true, true, true, true] rfl rfl (by kernel_rfl) (fun _ _ _ h => h) (Or.inl ⟨by rfl, ?_⟩) ?_ ?_
        rotate_left
        · intro w'
          go_simp
          with_reducible rfl
        rotate_left
        · simp only [Act.put, List.setIfInBounds_toArray, List.set_cons_zero, List.set_cons_succ, i64_w, i32_w]
          rfl
        refine done_ (by kernel_rfl) ?_
        go_wp2
        go_ret
        exact ⟨rfl, HB.out.trans (hHeld.1.mono HB.out.size)⟩
      · skip
        refine Kd.R_lit_step (w0 := w9) (Kd.int .u8) w9.heap.size 5 (by rfl) (N := 50) rfl (xs := ([] : List Int)) (inner := []) (ok := fun _ => True) (okp := fun _ => True) ?hr ?hp (fun _ hk => hk) trivial (Below.refl _ _) (Nat.le_refl _) (by simp) ?_
        (case hr => first|(go_simp;done)|(go_simp;rfl))
        (case hp => exact Reps.none _ _)
        intro v5 w5 ho5 hbl hgl hnl
        refine hK.out _ _ (hHeld.trans ((hbl).mono hHeld.size)) (fun hHeld => ?_)
        clear hK K
        refine norm_ (a' := ?_) ?_ ?_
        rotate_left
        · show Act.put _ (some 50) _ = _
          simp only [Act.put, List.setIfInBounds_toArray, List.set_cons_zero, List.set_cons_succ, i64_w, i32_w]
          rfl
        have HO5 := Aside0.mk ho5
        have HBl := Aside0.mk hbl
        refine one_ (i := 10) (N := some 48) #[true, true, true, true, true, true, true, true, true, true, true, false, true, true, false, true, false, false, false, false, false, false, false, false] rfl rfl (by kernel_rfl) (by decide) (fun K hK => ?_)
        refine goes_ Try.func55 (by kernel_rfl) rfl #[.slice A0 b.length c0, .string s] (by rfl) rfl rfl (by first | (simp only [List.map_toArray, List.map_cons, List.map_nil]; done) | (simp only [List.map_toArray, List.map_cons, List.map_nil]; rfl)) ?_
        refine (wire_PutText.calls k2 A0 c0 b s E2 _ (Kd.C_below HR0.out (HB.out.trans (hHeld.mono HB.out.size))) HC0.out K2.out).mono ?_
        rintro e w8 ⟨v8, rfl, hR8, hb8⟩
        obtain ⟨A8, c8, rfl⟩ := Kd.R_slice hR8
        refine ⟨_, rfl, ?_⟩
        refine hK.out _ _ (hHeld.trans ((hb8).mono hHeld.size)) (fun hHeld => ?_)
        clear hK K
        refine norm_ (a' := ?_) ?_ ?_
        rotate_left
        · show Act.put _ (some 48) _ = _
          simp only [Act.put, List.setIfInBounds_toArray, List.set_cons_zero, List.set_cons_succ, i64_w, i32_w]
          rfl
        have hS2 : Below wr.heap.size wr w8 ∧ Kd.R (Kd.int .u8) 5 w8 w5.heap.size (fun _ => True) (.slice A8 E2.length c8) E2 := ⟨hHeld, hR8⟩
        refine last_mono (S2 := fun w' => Below wr.heap.size wr w' ∧ Kd.R (Kd.int .u8) 5 w' w5.heap.size (fun _ => True) (.slice A8 E2.length c8) E2) hS2 (fun w' h => h.1) ?_
        clear hHeld
        have hHeld := hS2
        clear hS2
        have HO6 := Aside0.mk (Kd.R_below HO5.out hb8)
        have HB6 := Aside0.mk (HBl.out.trans (hb8.mono HBl.out.size))
        refine take_ (i := 11) (N := some 49) (v := ?_) (a' := ?_) #[true, true, true, true, true, true, true, true, true, true, true, true, true, true, false, true, false, false, false, false, false, false, false, false] rfl rfl (by kernel_rfl) (fun _ _ _ h => h) (Or.inl ⟨by rfl, ?_⟩) hHeld ?_ ?_
        rotate_left
        · intro w' hw'
          have cv := Kd.C_string (P := Try.prog) Try.underlying78 Try.underlying5 Try.underlying9 (c := c8) (Kd.R_reads' hw'.2).2.2
          go_simp
          with_reducible rfl
        rotate_left
        · simp only [Act.put, List.setIfInBounds_toArray, List.set_cons_zero, List.set_cons_succ, i64_w, i32_w]
          rfl
        refine one_ (i := 14) (N := some 52) #[true, true, true, true, true, true, true, true, true, true, true, true, true, true, true, true, false, false, false, false, false, false, false, false] rfl rfl (by kernel_rfl) (by decide) (fun K hK => ?_)
        have hlt5 : ∀ k, v5.ownBlock = some k → w9.heap.size ≤ k ∧ k < w5.heap.size := fun k hk => ⟨Kd.R_base HO5.out k hk, Kd.R_lt HO5.out k hk⟩
        refine Kd.R_append_rows_step (Kd.int .u8) (w0 := w9) w9.heap.size (by rfl) (.tmp 50) (.tmp 51) 78 5 (.int .u8 0) 1 (by rfl) Try.underlying78 info5 rfl (by decide) (by omega) v5 [] b _ _ _ (fun _ => True) (fun _ => False) (by rfl) (by rfl) ?aO ?aR (fun _ _ h => h) (fun _ h => h.elim) ?aF ?aB ?aS ?aL ?_
        (case aR => exact Kd.C_below HR0.out (HB.out.trans (hHeld.1.mono HB.out.size)))
        (case aB => exact HB6.out)
        (case aF => exact (fun _ _ => trivial))
        (case aO => exact HO6.out)
        (case aS => exact HB6.out.size)
        (case aL => have := HL.out;simp only [List.length_nil];omega)
        intro v6 w6 ho6 hb6 hg6 hat6
        refine hK.out _ _ ⟨(Fw9.out.trans (hb6.mono Fw9.out.size)), (Kd.R_grown1 hHeld.2 rfl hg6 (fun e => by obtain ⟨k, hk⟩ : ∃ k, v5.ownBlock = some k := hnl.imp (fun _ h => h.1); have h1 := hlt5 k hk; rw [hk] at e; have h2 := Kd.R_base hR8 k e.symm; omega))⟩ (fun hHeld => ?_)
        clear hK K
        refine norm_ (a' := ?_) ?_ ?_
        rotate_left
        · show Act.put _ (some 52) _ = _
          simp only [Act.put, List.setIfInBounds_toArray, List.set_cons_zero, List.set_cons_succ, i64_w, i32_w]
          rfl
        have ho6 : Kd.R (Kd.int .u8) 5 w6 w9.heap.size (fun _ => True) v6 b := ho6
        have hr6 := hHeld.2
        have hat := hat6
        refine one_ (i := 16) (N := some 54) #[true, true, true, true, true, true, true, true, true, true, true, true, true, true, true, true, true, false, false, false, false, false, false, false] rfl rfl (by kernel_rfl) (by decide) (fun K hK => ?_)
        have hv6 : ∀ k, v6.ownBlock = some k → w9.heap.size ≤ k := fun k hk => Kd.R_base ho6 k hk
        refine goes_ Try.func56 (by kernel_rfl) rfl #[v6, .string s] (by rfl) rfl rfl (by first | (simp only [List.map_toArray, List.map_cons, List.map_nil]; done) | (simp only [List.map_toArray, List.map_cons, List.map_nil]; rfl)) ?_
        refine (tombolaref05_PutText.calls 1020 (fun k => some k = v6.ownBlock) v6 b s E2 w9 w6 hb6 (Kd.R_tight rfl ho6) K3.out).mono ?_
        rintro e w7 ⟨v7, rfl, hR7, hb7, hk7⟩
        obtain ⟨A7, c7, rfl⟩ := Kd.R_slice hR7
        refine ⟨_, rfl, ?_⟩
        refine hK.out _ _ ⟨(Fw9.out.trans (hb7.mono Fw9.out.size)), (Kd.R_step (Kd.R_tight rfl hHeld.2) (fun k e hlt => hk7.2 k hlt (fun hk => hat6.elim (fun h => by obtain ⟨q, hq⟩ : ∃ q, v5.ownBlock = some q := hnl.imp (fun _ h => h.1); have h1 := hlt5 q hq; rw [h, hq] at hk; injection hk with hk; have h2 := Kd.R_base hR8 k e.symm; omega) (fun ⟨q, hq, hge⟩ => by rw [hq] at hk; injection hk with hk; have h2 := Kd.R_lt hR8 k e.symm; omega))) |> fun h => Kd.R_mono h (fun _ _ => trivial))⟩ (fun hHeld => ?_)
        clear hK K
        refine norm_ (a' := ?_) ?_ ?_
        rotate_left
        · show Act.put _ (some 54) _ = _
          simp only [Act.put, List.setIfInBounds_toArray, List.set_cons_zero, List.set_cons_succ, i64_w, i32_w]
          rfl
        refine one_ (i := 17) (N := some 55) #[true, true, true, true, true, true, true, true, true, true, true, true, true, true, true, true, true, true, false, false, false, false, false, false] rfl rfl (by kernel_rfl) (by decide) (fun K hK => ?_)
        have cv7 := Kd.C_string (P := Try.prog) Try.underlying78 Try.underlying5 Try.underlying9 (c := c7) (Kd.R_reads' hR7).2.2
        refine value_ (w1 := ?_) (v := ?_) (by rfl) rfl ?_ ?_
        rotate_left 2
        · go_simp
          constructor
          · rfl
          · rfl
        refine hK.out _ _ ⟨(hHeld.1.trans ((Below.refl _ _).mono hHeld.1.size)), (Kd.R_below hHeld.2 (Below.refl _ _))⟩ (fun hHeld => ?_)
        clear hK K
        refine norm_ (a' := ?_) ?_ ?_
        rotate_left
        · show Act.put _ (some 55) _ = _
          simp only [Act.put, List.setIfInBounds_toArray, List.set_cons_zero, List.set_cons_succ, i64_w, i32_w]
          rfl
        refine pure_ (i := 18) (N := some 56) (v := ?_) (a' := ?_) #[true, true, true, true, true, true, true, true, true, true, true, true, true, true, true, true, true, true, true, false, false, false, false, false] rfl rfl (by kernel_rfl) (fun _ _ _ h => h) (Or.inl ⟨by rfl, ?_⟩) ?_ ?_
        rotate_left
        · intro w'
          go_simp
          with_reducible rfl
        rotate_left
        · simp only [Act.put, List.setIfInBounds_toArray, List.set_cons_zero, List.set_cons_succ, i64_w, i32_w]
          rfl
        refine pure_ (i := 19) (N := some 57) (v := ?_) (a' := ?_) #[true, true, true, true, true, true, true, true, true, true, true, true, true, true, true, true, true, true, true, true, false, false, false, false] rfl rfl (by kernel_rfl) (fun _ _ _ h => h) (Or.inl ⟨by rfl, ?_⟩) ?_ ?_
        rotate_left
        · intro w'
          go_simp
          with_reducible rfl
        rotate_left
        · simp only [Act.put, List.setIfInBounds_toArray, List.set_cons_zero, List.set_cons_succ, i64_w, i32_w]
          rfl
        refine pure_ (i := 20) (N := some 58) (v := ?_) (a' := ?_) #[true, true, true, true, true, true, true, true, true, true, true, true, true, true, true, true, true, true, true, true, true, false, false, false] rfl rfl (by kernel_rfl) (fun _ _ _ h => h) (Or.inl ⟨by rfl, ?_⟩) ?_ ?_
        rotate_left
        · intro w'
          go_simp
          with_reducible rfl
        rotate_left
        · simp only [Act.put, List.setIfInBounds_toArray, List.set_cons_zero, List.set_cons_succ, i64_w, i32_w]
          rfl
        refine one_ (i := 21) (N := some 59) #[true, true, true, true, true, true, true, true, true, true, true, true, true, true, true, true, true, true, true, true, true, true, false, false] rfl rfl (by kernel_rfl) (by decide) (fun K hK => ?_)
        refine goes_ Try.func52 (by kernel_rfl) rfl #[] (by rfl) rfl rfl (by first | (simp only [List.map_toArray, List.map_cons, List.map_nil]; done) | (simp only [List.map_toArray, List.map_cons, List.map_nil]; rfl)) ?_
        refine (tombolalaw05_alive.own _).mono ?_
        rintro e w4 ⟨rfl, hb4⟩
        refine ⟨_, rfl, ?_⟩
        refine hK.out _ _ ⟨(hHeld.1.trans ((hb4).mono hHeld.1.size)), (Kd.R_below hHeld.2 (hb4))⟩ (fun hHeld => ?_)
        clear hK K
        refine norm_ (a' := ?_) ?_ ?_
        rotate_left
        · show Act.put _ (some 59) _ = _
          simp only [Act.put, List.setIfInBounds_toArray, List.set_cons_zero, List.set_cons_succ, i64_w, i32_w]
          rfl
        refine pure_ (i := 22) (N := some 60) (v := ?_) (a' := ?_) #[true, true, true, true, true, true, true, true, true, true, true, true, true, true, true, true, true, true, true, true, true, true, true, false] rfl rfl (by kernel_rfl) (fun _ _ _ h => h) (Or.inl ⟨by rfl, ?_⟩) ?_ ?_
        rotate_left
        · intro w'
          go_simp
          with_reducible rfl
        rotate_left
        · simp only [Act.put, List.setIfInBounds_toArray, List.set_cons_zero, List.set_cons_succ, i64_w, i32_w]
          rfl
        refine pure_ (i := 23) (N := some 6) (v := ?_) (a' := ?_) #[true, true, true, true, true, true, true, true, true, true, true, true, true, true, true, true, true, true, true, true, true, true, true, true] rfl rfl (by kernel_rfl) (fun _ _ _ h => h) (Or.inl ⟨by rfl, ?_⟩) ?_ ?_
        rotate_left
        · intro w'
          go_simp
          with_reducible rfl
        rotate_left
        · simp only [Act.put, List.setIfInBounds_toArray, List.set_cons_zero, List.set_cons_succ, i64_w, i32_w]
          rfl
        refine done_ (by kernel_rfl) ?_
        go_wp2
        go_ret
        exact ⟨rfl, HB.out.trans (hHeld.1.mono HB.out.size)⟩
      -- END
theorem mainWirePuts (A0 : Option Addr) (c0 : Nat) (l0 : List Int) (A1 : Option Addr) (c1 : Nat) (l1 : List Int) (s : ByteArray) (w : World) (hr0 : Kd.C (Kd.int .u8) w A0 l0.length l0) (hc0 : l0.length ≤ c0) {P Q R : Prop} (_w0 : P) (_y0 : Q) (hr1 : Kd.C (Kd.int .u64) w A1 l1.length l1) (hc1 : l1.length ≤ c1) (w1 : (∀ x, x ∈ l1 → (Lit.int .u64 x).wf = true) ∧ l1.length ≤ 9223372036854775807) {P2 : Prop} (_y1 : R) (_w2 : P2) :
    Calls Try.prog 10 #[.slice A0 l0.length c0, .slice A1 l1.length c1, .string s] w fun e w' => e = .returned (.bool true) ∧ Below w.heap.size w w' := tombolalaw05_WirePuts.calls A0 c0 l0 A1 c1 l1 s w hr0 hc0 hr1 hc1 (words_wf w1.1)
end Go.Proofs.Ytogdooclldoomaa.F
