import Derived.Test.YtogdooclldoomaaWireNobody
namespace Go.Proofs.Ytogdooclldoomaa.F
open Go.RowKit Go.Proofs.YtogdooclldoomaaW.PrintWords Go.Proofs.YtogdooclldoomaaW.PrintLast Go.Proofs.YtogdooclldoomaaW.PrintMore
set_option linter.unusedSimpArgs false
set_option linter.unusedVariables false
/-- What is still to be read, behind some numbers. -/
def backL (l : List Int) (s : ByteArray) (k : Nat) : List Int := (l.drop k).flatMap enc ++ (enc (s.size : Int) ++ bytesOf s)
theorem backL_num (l : List Int) (s : ByteArray) (k : Nat) (hk : k < l.length) (hw : ∀ x ∈ l, 0 ≤ x ∧ x < 18446744073709551616) : numR (backL l s k) 0 (rd l (k : Int)) = (rd l (k : Int), backL l s (k + 1), 0) := by
  have hx := hw l[k] (List.getElem_mem hk)
  rw [show rd l (k : Int) = l[k] by simp [rd, hk]]
  unfold backL
  rw [List.drop_eq_getElem_cons hk, List.flatMap_cons, List.append_assoc]
  exact num_enc _ _ hx.1 hx.2
theorem backL_text (l : List Int) (s : ByteArray) (hs : s.size ≤ 1000) : textR (backL l s l.length) 0 (s.size : Int) = (s, [], 0) := by
  unfold backL
  rw [List.drop_eq_nil_of_le (Nat.le_refl _), List.flatMap_nil, List.nil_append]
  have := text_enc s hs
  rw [str_bytes] at this
  exact this
set_option maxHeartbeats 8000000 in
set_option maxRecDepth 100000 in
theorem tombolalaw05_WireBack.calls (A0 : Option Addr) (c0 : Nat) (l : List Int) (s : ByteArray) (w : World) (hr0 : Kd.C (Kd.int .u64) w A0 l.length l) (hc0 : l.length ≤ c0) (hw0 : ∀ x ∈ l, 0 ≤ x ∧ x < 18446744073709551616) :
    Calls Try.prog 12 #[.slice A0 l.length c0, .string s] w fun e w' => e = .returned (.bool true) ∧ Below w.heap.size w w' := by
  have HR := Aside0.mk hr0
  have HC := Aside0.mk hc0
  have HW := Aside0.mk hw0
  clear hr0 hc0 hw0
  by_cases g1 : (l.length : Int) > 50
  · have b1 : decide ((50 : Int) < (l.length : Int)) = true := decide_eq_true g1
    clear g1
    go_enter Try.func12, Try.ntmps12
    go_wp2_with (go_at_call 52; refine (tombolalaw05_alive.own _).mono ?_; rintro e w9 ⟨rfl, hb⟩; have HA := Aside0.mk hb; clear hb)
    go_ret
    exact ⟨rfl, HA.out⟩
  have b1 : decide ((50 : Int) < (l.length : Int)) = false := decide_eq_false g1
  by_cases g2 : (s.size : Int) > 300
  · have b2 : decide ((300 : Int) < (s.size : Int)) = true := decide_eq_true g2
    clear g1 g2
    go_enter Try.func12, Try.ntmps12
    go_wp2_with (go_at_call 52; refine (tombolalaw05_alive.own _).mono ?_; rintro e w9 ⟨rfl, hb⟩; have HA := Aside0.mk hb; clear hb)
    go_ret
    exact ⟨rfl, HA.out⟩
  have b2 : decide ((300 : Int) < (s.size : Int)) = false := decide_eq_false g2
  have HL : Aside0 (l.length ≤ 50 ∧ s.size ≤ 300) := ⟨by omega, by omega⟩
  clear g1 g2
  obtain ⟨k1, hk1⟩ := put_all [] l (by decide) (by have := HL.out; omega) HW.out
  rw [List.nil_append] at hk1
  obtain ⟨k2, hk2⟩ := putText_all (l.flatMap enc) s (by have := flat_len l; have := HL.out; omega) (by have := HL.out; omega)
  obtain ⟨B0, hB0⟩ : ∃ B0, backL l s 0 = B0 := ⟨_, rfl⟩
  have hk2' : wire_PutText.f k2 (l.flatMap enc) s = some (backL l s 0) := by rw [hk2]; unfold backL; rw [List.drop_zero, List.append_assoc]
  rw [hB0] at hk2'
  have E0 := Aside0.mk hB0
  obtain ⟨E, hE⟩ : ∃ E, l.flatMap enc = E := ⟨_, rfl⟩
  rw [hE] at hk1 hk2'
  have K1 := Aside0.mk hk1
  have K2 := Aside0.mk hk2'
  clear hk1 hk2 hk2' hB0 hE
  have LB : Aside0 (B0.length ≤ 1099511627776) := ⟨by
    rw [← E0.out]
    unfold backL
    have := flat_len l
    have h2 := encF_len 9 (s.size : Int)
    have h3 := bytesOf_length s
    have := HL.out
    rw [List.drop_zero, List.length_append, List.length_append]
    unfold enc at *
    omega⟩
  go_enter Try.func12, Try.ntmps12
  go_wp2_with (first
    | (go_at_call 54; refine (wire_Put.calls k1 none 0 [] A0 c0 l E _ (Kd.C_nil _ _) (Nat.le_refl _) HR.out HC.out K1.out).mono ?_; rintro e w9 ⟨v, rfl, hR, hb⟩; have HB := Aside0.mk hb; obtain ⟨A2, c2, ev2, hc2, hC2⟩ := Kd.R_reads hR; have H2 := Aside0.mk hC2; have I2 := Aside0.mk hc2; subst ev2; clear hb hR hc2 hC2)
    | (go_at_call 55; refine (wire_PutText.calls k2 A2 c2 E s B0 _ H2.out I2.out K2.out).mono ?_; rintro e w9 ⟨v, rfl, hR, hb⟩; have n1 := Aside0.mk (HB.out.trans (hb.mono HB.out.size)); obtain ⟨A3, c3, ev3, hc3, hC3⟩ := Kd.R_reads hR; have H3 := Aside0.mk hC3; have I3 := Aside0.mk hc3; subst ev3; clear HB hb hR hc3 hC3 H2 I2; have HB := n1; clear n1)
    | (go_at_call 57; refine (wire_NewReader.own A3 c3 B0 _ H3.out I3.out LB.out).mono ?_; rintro e w9 ⟨g, wb, rfl, hr, hb0, hb1⟩; have HI := Aside0.mk hr; have HJ := Aside0.mk hb1; have HB0 := Aside0.mk (HB.out.trans (hb0.mono HB.out.size)); clear HB hr hb0 hb1 H3))
  go_loopg [6] l.length (fun gg s6 wx => ∃ (kk : Nat), kk ≤ l.length ∧ l.length - kk ≤ gg ∧ s6 = .int .i64 (kk : Int) ∧ Aside0 (Rd wb wx g (backL l s kk) 0) ∧ Aside0 (Below wb.heap.size wb wx))
  case atStart => exact ⟨0, Nat.zero_le _, by omega, rfl, ⟨by rw [E0.out]; exact HI.out⟩, HJ⟩
  case round =>
    clear HI HJ
    obtain ⟨kk, hkk, hg, rfl, HI, HJ⟩ := hrel
    by_cases hlt : kk < l.length
    · have hltz : (kk : Int) < (l.length : Int) := by omega
      have hkz : 0 ≤ (kk : Int) := by omega
      have c1 : decide ((kk : Int) < (l.length : Int)) = true := decide_eq_true hltz
      have HBx := Aside0.mk (HB0.out.trans (HJ.out.mono HB0.out.size))
      obtain ⟨ad, rfl, hx0⟩ := Kd.at_int HR.out (kk : Int) hkz hltz
      have hx := pw_cell_below HBx.out hx0
      have HX0 := Aside0.mk hx0
      have HN := Aside0.mk (backL_num l s kk hlt HW.out)
      have EW : Aside0 (wrap64 ((kk : Int) + 1) = ((kk + 1 : Nat) : Int)) := ⟨by have := HL.out; unfold wrap64; omega⟩
      have R1 : Aside0 (kk + 1 ≤ l.length) := ⟨hlt⟩
      have R2 : Aside0 (l.length - (kk + 1) < gk) := ⟨by omega⟩
      have HX : Aside0 (∀ W, Below w.heap.size w W → W.cell? (ad.add (kk : Int).toNat) = some (.int .u64 (rd l (kk : Int)))) := ⟨fun W hW => pw_cell_below hW hx0⟩
      clear hx0 HX0
      obtain ⟨i, hi⟩ : ∃ i : Int, (kk : Int) = i := ⟨_, rfl⟩
      rw [hi] at hltz hkz c1 hx HN EW HX
      rw [hi]
      generalize rd l i = x at hx HN HX
      replace hkz := eq_true hkz
      replace hltz := eq_true hltz
      have bx : (x != x) = false := bne_self_eq_false x
      clear hlt hkk hg
      go_wp2
      go_region_with (go_at_call 59; refine (wire_Reader_Num.own (w0 := wb) (g := g) (l := backL l s kk) (e := 0) x (by exact HI.out) (by exact below_drew HJ.out)).mono ?_; rintro e w9 ⟨he, hd⟩; rw [HN.out] at he hd; subst he; have hx2 := HX.out w9 (HB0.out.trans (hd.below.mono HB0.out.size)); have HD := Aside0.mk hd; clear hd)
      all_goals (try go_wp2)
      all_goals go_roundg (l.length - (kk + 1))
      all_goals (first | exact R2.out | exact ⟨kk + 1, R1.out, Nat.le_refl _, congrArg _ (by rw [← EW.out]), ⟨HD.out.rd⟩, ⟨HD.out.below⟩⟩)
    · have c1 : decide ((kk : Int) < (l.length : Int)) = false := decide_eq_false (by omega)
      obtain rfl : kk = l.length := by omega
      have HT := Aside0.mk (backL_text l s (by have := HL.out; omega))
      clear hlt hkk hg
      go_wp2_with (first
        | (go_at_call 63; with_reducible refine (wire_Reader_Text.own (s.size : Int) (by have := HL.out; omega) HI.out HJ.out).mono ?_; rintro e w9 ⟨he, hd⟩; rw [HT.out] at he hd; subst he; have HD := Aside0.mk hd; clear hd)
        | (go_at_call 67; with_reducible refine (wire_Reader_Left.own HD.out.rd).mono ?_; rintro e w9 ⟨rfl, hd⟩; have n1 := Aside0.mk (HD.out.drawn hd); clear hd HD; have HD := n1; clear n1)
        | (go_at_call 68; with_reducible refine (wire_Reader_Err.own HD.out.rd).mono ?_; rintro e w9 ⟨rfl, hd⟩; have n1 := Aside0.mk (HD.out.drawn hd); clear hd HD; have HD := n1; clear n1)
        | (go_at_call 52; refine (tombolalaw05_alive.own _).mono ?_; rintro e w9 ⟨rfl, hb⟩; have HA := Aside0.mk hb; clear hb))
      go_ret
      have h1 := HB0.out.trans (HD.out.below.mono HB0.out.size)
      exact ⟨rfl, h1.trans (HA.out.mono h1.size)⟩
theorem words_wf {l : List Int} (h : ∀ x ∈ l, (Lit.int .u64 x).wf = true) : ∀ x ∈ l, 0 ≤ x ∧ x < 18446744073709551616 := fun x hx => by
  have h2 : 0 ≤ x ∧ x ≤ 18446744073709551615 := by simpa [Lit.wf, IntKind.min, IntKind.max, IntKind.signed, IntKind.bits] using h x hx
  omega
theorem mainWireBack (A0 : Option Addr) (c0 : Nat) (l0 : List Int) (s : ByteArray) (w : World) (hr0 : Kd.C (Kd.int .u64) w A0 l0.length l0) (hc0 : l0.length ≤ c0) (w0 : (∀ x, x ∈ l0 → (Lit.int .u64 x).wf = true) ∧ l0.length ≤ 9223372036854775807) {P Q : Prop} (_y0 : P) (_w1 : Q) :
    Calls Try.prog 12 #[.slice A0 l0.length c0, .string s] w fun e w' => e = .returned (.bool true) ∧ Below w.heap.size w w' := tombolalaw05_WireBack.calls A0 c0 l0 s w hr0 hc0 (words_wf w0.1)
end Go.Proofs.Ytogdooclldoomaa.F
