import Derived.Test.YtogdooclldoomaaWireRef
import Derived.Test.YtogdooclldoomaaReg
import Derived.Deep.QuietTactic
import Derived.Test.YtogdooclldoomaaFRef05A
namespace Go.Proofs.Ytogdooclldoomaa.F
open Go.RowKit Go.Proofs.YtogdooclldoomaaW.PrintWords Go.Proofs.YtogdooclldoomaaW.PrintLast Go.Proofs.YtogdooclldoomaaW.PrintMore
set_option linter.unusedSimpArgs false
set_option linter.unusedVariables false
/-! The document's New and Text. -/
structure R5W (W W' : World) (g : Nat) (l : List Int) (at_ e : Int) : Prop where
  r5 : R5 W' g l at_ e
  below : Below (trunc W g).heap.size (trunc W g) W'
  keep : KeepBut W W' g none
  le : g ≤ W.heap.size
theorem R5W.refl {W : World} {g : Nat} {l : List Int} {at_ e : Int} (h : R5 W g l at_ e) : R5W W W g l at_ e := ⟨h, h.tb, KeepBut.refl _ _ _, Nat.le_of_lt h.lt⟩
theorem R5W.trans {W W' W2 : World} {g : Nat} {l : List Int} {at_ e at2 e2 : Int} (h : R5W W W' g l at_ e) (k : R5W W' W2 g l at2 e2) : R5W W W2 g l at2 e2 :=
  ⟨k.r5, (trunc_mono h.le h.below).trans (k.below.mono (trunc_mono h.le h.below).size) |> fun x => by
    have e1 := trunc_size h.le
    have e2 := trunc_size k.le
    refine ⟨k.below.os.trans h.below.os, k.below.tape.trans h.below.tape, k.below.output.trans h.below.output, Nat.le_trans h.below.size (Nat.le_trans (by rw [e1] at *; have := h.below.size; rw [e1] at this; exact Nat.le_of_lt (Nat.lt_of_lt_of_le h.r5.lt (Nat.le_refl _)) |> fun _ => Nat.le_refl _) k.keep.1), fun i hi => ?_⟩
    have h3 := h.below.block i hi
    rw [e1] at hi
    rw [← h3]
    exact k.keep.2 i (Nat.lt_trans hi h.r5.lt) (by omega) (by simp), h.keep.trans k.keep (.inl rfl), h.le⟩
theorem R5W.drawn {W W' W2 : World} {g : Nat} {l : List Int} {at_ e : Int} (h : R5W W W' g l at_ e) (hb : Below W'.heap.size W' W2) : R5W W W2 g l at_ e :=
  ⟨h.r5.below hb, h.below.trans (hb.mono h.below.size), h.keep.trans (KeepBut.of_below hb g none) (.inl rfl), h.le⟩
theorem R5.facts {W : World} {g : Nat} {l : List Int} {at_ e : Int} (h : R5 W g l at_ e) :
    ∃ A c, Kd.C (Kd.int .u8) W A l.length l ∧ W.heap[g]? = some (.cells #[.slice A l.length c, .int .i64 at_, .int .i64 e] 95 (0, 0)) ∧ W.cell? ⟨g, 0, none⟩ = some (.slice A l.length c) ∧ W.cell? ⟨g, 1, none⟩ = some (.int .i64 at_) ∧ W.cell? ⟨g, 2, none⟩ = some (.int .i64 e) ∧ W.frozen? ⟨g, 1, none⟩ = false := by
  have hb := h.tb
  obtain ⟨A, c, h1, h2, h3⟩ := h
  exact ⟨A, c, Kd.C_below h3 hb, h1, cellS95_0 h1, cellS95_1 h1, cellS95_2 h1, blk_frozen h1 1⟩
theorem ref05_fail.own {W : World} {g : Nat} {l : List Int} {at_ e : Int} (e2 a2 : Int) (h : R5 W g l at_ e) :
    Calls Try.prog 81 #[.pointer (some ⟨g, 0, none⟩), .int .i64 e2, .int .i64 a2] W fun en W' => en = .returned (.int .u64 0) ∧ R5W W W' g l a2 e2 :=
  (tombolaref05_Reader_fail.calls g l at_ e e2 a2 0 a2 e2 (trunc W g) W h h.tb rfl).mono fun en W' ⟨h1, h2, h3, h4⟩ => ⟨h1, R5.back (Nat.le_of_lt h.lt) h2 h3, h3, h4, Nat.le_of_lt h.lt⟩
theorem R5W.set_at {W W' : World} {g : Nat} {l : List Int} {at_ e : Int} (h : R5W W W' g l at_ e) (x : Int) : R5W W (W'.setCell ⟨g, 1, none⟩ (.int .i64 x)) g l x e := by
  have h1 : IsS95 (trunc W' g) (W'.setCell ⟨g, 1, none⟩ (.int .i64 x)) g l x e := IsS95.set_1 h.r5 x
  have hs := trunc_size (Nat.le_of_lt h.r5.lt)
  exact ⟨R5.back (Nat.le_of_lt h.r5.lt) h1 (h.r5.tb.setCell (by rw [hs]; exact Nat.le_refl _) _), h.below.setCell (by rw [trunc_size h.le]; exact Nat.le_refl _) _, h.keep.set_ 1 _, h.le⟩
theorem strOfNums_snoc (xs : List Int) (x : Int) : strOfNums xs ++ strOfNums [x] = strOfNums (xs ++ [x]) := by
  unfold strOfNums
  rw [List.map_append]
  apply ByteArray.ext
  simp [ByteArray.append_eq, ByteArray.data_append]
set_option maxHeartbeats 8000000 in
set_option maxRecDepth 100000 in
theorem ref05_New.own (A : Option Addr) (c : Nat) (l : List Int) (w : World) (hr : Kd.C (Kd.int .u8) w A l.length l) (hc : l.length ≤ c) (hl : l.length ≤ 1099511627776) :
    Calls Try.prog 58 #[.slice A l.length c] w fun e w' => ∃ g, e = .returned (.pointer (some ⟨g, 0, none⟩)) ∧ R5 w' g l 0 0 ∧ Below w.heap.size w w' ∧ w.heap.size ≤ g := by
  have hu := Try.underlying95
  have HR := Aside0.mk hr
  have HC := Aside0.mk hc
  have HL := Aside0.mk hl
  clear hr hc hl
  go_enter Try.func58, Try.ntmps58
  go_wp2_with (first
    | ((with_reducible refine gate_dst (N := 3) rfl ?_);(try (refine gate_guard (by rfl) ?_;dsimp only));refine Kd.R_lit (Kd.int .u8) _ 5 ?hg (N := 3) ?hd (xs := ([] : List Int)) (inner := []) (ok := fun _ => True) (okp := fun _ => True) ?hr ?hp (fun _ hk => hk) trivial (Below.refl _ _) (Nat.le_refl _) (by simp) ?_;(case hd => rfl);(case hg => rfl);(case hr => first|(go_simp;done)|(go_simp;rfl));(case hp => exact (Reps.none _ _));intro v1 w1 ho1 hb1 hg_ hnew_;clear hg_ hnew_;have HB := Aside0.mk hb1;have HO := Aside0.mk ho1;clear hb1 ho1)
    | ((with_reducible refine gate_builtin (b := .append) (xs := #[.tmp 3, .tmp 4]) rfl ?_);(try (refine gate_guard (by rfl) ?_;dsimp only));at_builtin;refine Kd.R_append_rows (Kd.int .u8) (w0 := w) w.heap.size rfl (.tmp 3) (.tmp 4) 78 5 (.int .u8 0) 1 rfl Try.underlying78 info5 rfl (by decide) (by omega) v1 [] l _ _ _ (fun _ => True) (fun _ => False) rfl rfl ?aO ?aR (fun _ _ h => h) (fun _ h => h.elim) ?aF ?aB ?aS ?aL ?_;(case aR => exact Kd.C_below HR.out HB.out);(case aB => exact HB.out);(case aF => exact (fun _ _ => trivial));(case aO => exact HO.out);(case aS => exact HB.out.size);(case aL => have := HL.out;simp only [List.length_nil];omega);intro v2 w2 ho hb hg hat;clear HB HO;have HB := Aside0.mk (hb);obtain ⟨A2, c2, rfl, hc2, hC2⟩ := Kd.R_reads ho;have HC2 := Aside0.mk (show Kd.C (Kd.int .u8) w2 A2 l.length l from hC2);clear hb ho hg hat hc2 hC2))
  go_ret
  have hi := IsS95.new w2 w2 A2 c2 l 0 0 (Below.refl _ _) HC2.out
  have hb2 : Below w2.heap.size w2 (w2.alloc (.cells #[.slice A2 l.length c2, .int .i64 0, .int .i64 0] 95)) := below_alloc (Below.refl _ _) _
  refine ⟨_, rfl, ?_, HB.out.trans (hb2.mono HB.out.size), HB.out.size⟩
  obtain ⟨A3, c3, h1, h2, h3⟩ := hi
  have hle : w2.heap.size ≤ (w2.alloc (.cells #[.slice A2 l.length c2, .int .i64 0, .int .i64 0] 95)).heap.size := hb2.size
  refine ⟨A3, c3, h1, by rw [trunc_size hle]; exact Nat.le_refl _, Kd.C_below h3 ⟨rfl, rfl, rfl, by rw [trunc_size hle]; exact Nat.le_refl _, fun i hi => ?_⟩⟩
  rw [trunc_get hle hi]
  exact hb2.block i hi
/-- What the document's Text reads, told by what Int did. -/
def refTextR (l : List Int) (at_ n at2 e2 : Int) : ByteArray × Int × Int :=
  if e2 = 0 then if (l.length : Int) - at2 < n then (ByteArray.empty, at_, 4) else (strOfNums ((l.drop at2.toNat).take n.toNat), at2 + n, 0) else (ByteArray.empty, at2, e2)
set_option maxHeartbeats 8000000 in
set_option maxRecDepth 100000 in
theorem ref05_Text.own {W : World} {g : Nat} {l : List Int} {at_ e : Int} (k : Nat) (top n at2 e2 : Int) (h : R5 W g l at_ e) (hf : tombolaref05_Reader_Int.f k l at_ e top = some (n, at2, e2)) (hr : 0 ≤ at2 ∧ at2 ≤ (l.length : Int)) (hn : e2 = 0 → 0 ≤ n) (hl : l.length ≤ 1000000) :
    Calls Try.prog 64 #[.pointer (some ⟨g, 0, none⟩), .int .i64 top] W fun en W' => en = .returned (.string (refTextR l at_ n at2 e2).1) ∧ R5W W W' g l (refTextR l at_ n at2 e2).2.1 (refTextR l at_ n at2 e2).2.2 := by
  have HF := Aside0.mk hf
  have HR := Aside0.mk hr
  have HN := Aside0.mk hn
  have HL := Aside0.mk hl
  have HW := Aside0.mk (R5W.refl h)
  obtain ⟨A1, c1, hC1, hb1, h0z, h1z, h2z, h1f⟩ := h.facts
  clear hf hr hn hl h hC1 hb1 h0z h2z
  unfold refTextR
  obtain ⟨j, hj⟩ : ∃ j : Int, (l.length : Int) - at2 = j := ⟨_, rfl⟩
  have hjw : IntKind.i64.wrap ((l.length : Int) - at2) = j := by
    rw [i64_w, ← hj]
    have h1 := HR.out
    have h2 := HL.out
    unfold wrap64
    omega
  have hjw2 : wrap64 ((l.length : Int) - at2) = j := (i64_w _).symm.trans hjw
  have HJ := Aside0.mk hj
  rw [hj]
  clear hj
  by_cases he : e2 = 0
  · rw [if_pos he]
    have be : (e2 == 0) = true := beq_iff_eq.mpr he
    have HE := Aside0.mk he
    by_cases hs : j < n
    · rw [if_pos hs]
      have bs : decide (j < n) = true := decide_eq_true hs
      clear he hs
      go_enter Try.func64, Try.ntmps64
      go_wp2_with (go_at_call 62; with_reducible refine (ref05_Int.own k top n at2 e2 HW.out.r5 HF.out).mono ?_; rintro en w9 ⟨rfl, h1, h2, h3⟩; have n1 := Aside0.mk (HW.out.trans ⟨h1, h2, h3, Nat.le_of_lt HW.out.r5.lt⟩); clear HW h1 h2 h3; have HW := n1; clear n1 h1z h1f; obtain ⟨A, c, hb, hblk, hcz0, hcz1, hcz2, hf1⟩ := HW.out.r5.facts; have hf2 := True.intro; clear hb)
      repeat (go_quiet (fail);try go_wp2_with (go_at_call 81; refine (ref05_fail.own 4 at_ (R5.below HW.out.r5 (pw_below_drewN (Below.refl _ _) _))).mono ?_; rintro en w8 ⟨rfl, hd⟩; have n1 := Aside0.mk ((HW.out.drawn (pw_below_drewN (Below.refl _ _) _)).trans hd); clear HW hd; have HW := n1; clear n1 hcz0 hcz1 hcz2 hf1 hf2; obtain ⟨A3, c3, hC3, hb3, hd0, hd1, hd2, hd3⟩ := HW.out.r5.facts; clear hC3 hb3 hd0 hd1 hd3))
      go_ret
      exact ⟨rfl, HW.out.drawn (Drawn0.below (by repeat (first | exact Drawn0.refl _ | apply Drawn0.step)))⟩
    · rw [if_neg hs]
      have bs : decide (j < n) = false := decide_eq_false hs
      have bn : (e2 != 0) = false := bne_eq_false_iff_eq.mpr he
      have HS : Aside0 (0 ≤ n ∧ at2 + n ≤ (l.length : Int)) := ⟨HN.out he, by have := HJ.out; omega⟩
      clear he hs
      go_enter Try.func64, Try.ntmps64
      go_wp2_with (go_at_call 62; with_reducible refine (ref05_Int.own k top n at2 e2 HW.out.r5 HF.out).mono ?_; rintro en w9 ⟨rfl, h1, h2, h3⟩; have n1 := Aside0.mk (HW.out.trans ⟨h1, h2, h3, Nat.le_of_lt HW.out.r5.lt⟩); clear HW h1 h2 h3; have HW := n1; clear n1 h1z h1f; obtain ⟨A, c, hb, hblk, hcz0, hcz1, hcz2, hf1⟩ := HW.out.r5.facts; have hf2 := True.intro; clear hb)
      repeat (go_quiet (fail);try go_wp2)
      clear hcz0 hcz1 hcz2 hf1 hf2 hblk
      go_loopg [7, 8] n.toNat (fun gg s7 s8 wx => ∃ (kk : Nat) (str : ByteArray), kk ≤ n.toNat ∧ n.toNat - kk ≤ gg ∧ s7 = .string str ∧ s8 = .int .i64 (kk : Int) ∧ Aside0 (str = strOfNums ((l.drop at2.toNat).take kk)) ∧ Aside0 (R5W W wx g l (at2 + (kk : Int)) 0))
      case atStart => exact ⟨0, ⟨#[]⟩, Nat.zero_le _, by omega, rfl, rfl, ⟨rfl⟩, ⟨by
        have e0 : R5W W w9 g l at2 0 := by
          have h := HW.out
          rw [HE.out] at h
          exact h
        simpa using e0.drawn (pw_below_drewN (Below.refl _ w9) _)⟩⟩
      case round =>
        clear HW
        obtain ⟨kk, str, hkk, hg, rfl, rfl, HSt, HX⟩ := hrel
        by_cases hlt : kk < n.toNat
        · have hltz : (kk : Int) < n := by omega
          have hs := HS.out
          have hr := HR.out
          have hl := HL.out
          obtain ⟨a, ha⟩ : ∃ a : Int, at2 + (kk : Int) = a := ⟨_, rfl⟩
          rw [ha] at HX
          have p0 : 0 ≤ a := by omega
          have p1 : a < (l.length : Int) := by omega
          have hat : a.toNat < l.length := by omega
          obtain ⟨A, c, hC, hblk, hcz0, hcz1, hcz2, hf1⟩ := HX.out.r5.facts
          obtain ⟨ad, rfl, hx⟩ := Kd.at_int hC a p0 p1
          have Q2 : Aside0 (strOfNums ((l.drop at2.toNat).take kk) ++ strOfNums [rd l a] = strOfNums ((l.drop at2.toNat).take (kk + 1))) := ⟨by
            rw [strOfNums_snoc]
            congr 1
            have hk2 : kk < (l.drop at2.toNat).length := by rw [List.length_drop]; omega
            rw [List.take_succ_eq_append_getElem hk2, List.getElem_drop]
            congr 2
            have e : at2.toNat + kk = a.toNat := by omega
            simp [rd, e, hat]⟩
          have EA : Aside0 (wrap64 (a + 1) = at2 + ((kk + 1 : Nat) : Int)) := ⟨by unfold wrap64; omega⟩
          have EW : Aside0 (wrap64 ((kk : Int) + 1) = ((kk + 1 : Nat) : Int)) := ⟨by unfold wrap64; omega⟩
          have R1 : Aside0 (kk + 1 ≤ n.toNat) := ⟨hlt⟩
          have R2 : Aside0 (n.toNat - (kk + 1) < gk) := ⟨by omega⟩
          have HB := Aside0.mk hblk
          have hsz : (9223372036854775807 < str.size + (strOfNums [rd l a]).size) = False := eq_false (by
            rw [HSt.out, strOfNums_size, strOfNums_size, List.length_take, List.length_drop]
            simp only [List.length_cons, List.length_nil]
            omega)
          generalize rd l a = x at hx Q2 hsz
          clear hC hs hr hl hat hcz2 hf1 hlt hkk hg ha
          obtain ⟨i, hi⟩ : ∃ i : Int, (kk : Int) = i := ⟨_, rfl⟩
          rw [hi] at hltz EW
          rw [hi]
          have bi : decide (i < n) = true := decide_eq_true hltz
          replace p0 := eq_true p0
          replace p1 := eq_true p1
          clear hltz hi
          go_wp2
          refine start_ (n := 15) (S := fun w' => Below wr.heap.size wr w') (ds := []) #[false, false, false, false, false, false, false, false, false, false, false, false, false, false, false] (by kernel_rfl) rfl rfl (below_drew (Below.refl _ _)) (fun hHeld => ?_)
          refine pure_ (i := 0) (N := some 48) (v := ?_) (a' := ?_) #[true, false, false, false, false, false, false, false, false, false, false, false, false, false, false] rfl rfl (by kernel_rfl) (fun _ _ _ h => h) (Or.inl ⟨by rfl, ?_⟩) ?_ ?_
          rotate_left
          · intro w'
            go_simp
            with_reducible rfl
          rotate_left
          · simp only [Act.put, List.setIfInBounds_toArray, List.set_cons_zero, List.set_cons_succ, i64_w, i32_w]
            rfl
          refine pure_ (i := 1) (N := some 49) (v := ?_) (a' := ?_) #[true, true, false, false, false, false, false, false, false, false, false, false, false, false, false] rfl rfl (by kernel_rfl) (fun _ _ _ h => h) (Or.inl ⟨by rfl, ?_⟩) ?_ ?_
          rotate_left
          · intro w'
            go_simp
            with_reducible rfl
          rotate_left
          · simp only [Act.put, List.setIfInBounds_toArray, List.set_cons_zero, List.set_cons_succ, i64_w, i32_w]
            rfl
          refine pure_ (i := 2) (N := some 50) (v := ?_) (a' := ?_) #[true, true, true, false, false, false, false, false, false, false, false, false, false, false, false] rfl rfl (by kernel_rfl) (fun _ _ _ h => h) (Or.inl ⟨by rfl, ?_⟩) ?_ ?_
          rotate_left
          · intro w'
            go_simp
            with_reducible rfl
          rotate_left
          · simp only [Act.put, List.setIfInBounds_toArray, List.set_cons_zero, List.set_cons_succ, i64_w, i32_w]
            rfl
          refine pure_ (i := 3) (N := some 51) (v := ?_) (a' := ?_) #[true, true, true, true, false, false, false, false, false, false, false, false, false, false, false] rfl rfl (by kernel_rfl) (fun _ _ _ h => h) (Or.inl ⟨by rfl, ?_⟩) ?_ ?_
          rotate_left
          · intro w'
            go_simp
            with_reducible rfl
          rotate_left
          · simp only [Act.put, List.setIfInBounds_toArray, List.set_cons_zero, List.set_cons_succ, i64_w, i32_w]
            rfl
          refine pure_ (i := 5) (N := some 53) (v := ?_) (a' := ?_) #[true, true, true, true, false, true, false, false, false, false, false, false, false, false, false] rfl rfl (by kernel_rfl) (fun _ _ _ h => h) (Or.inl ⟨by rfl, ?_⟩) ?_ ?_
          rotate_left
          · intro w'
            go_simp
            with_reducible rfl
          rotate_left
          · simp only [Act.put, List.setIfInBounds_toArray, List.set_cons_zero, List.set_cons_succ, i64_w, i32_w]
            rfl
          refine pure_ (i := 6) (N := some 54) (v := ?_) (a' := ?_) #[true, true, true, true, false, true, true, false, false, false, false, false, false, false, false] rfl rfl (by kernel_rfl) (fun _ _ _ h => h) (Or.inl ⟨by rfl, ?_⟩) ?_ ?_
          rotate_left
          · intro w'
            go_simp
            with_reducible rfl
          rotate_left
          · simp only [Act.put, List.setIfInBounds_toArray, List.set_cons_zero, List.set_cons_succ, i64_w, i32_w]
            rfl
          refine pure_ (i := 7) (N := some 55) (v := ?_) (a' := ?_) #[true, true, true, true, false, true, true, true, false, false, false, false, false, false, false] rfl rfl (by kernel_rfl) (fun _ _ _ h => h) (Or.inl ⟨by rfl, ?_⟩) ?_ ?_
          rotate_left
          · intro w'
            go_simp
            with_reducible rfl
          rotate_left
          · simp only [Act.put, List.setIfInBounds_toArray, List.set_cons_zero, List.set_cons_succ, i64_w, i32_w]
            rfl
          refine take_ (i := 4) (N := some 52) (v := ?_) (a' := ?_) #[true, true, true, true, true, true, true, true, false, false, false, false, false, false, false] rfl rfl (by kernel_rfl) (fun _ _ _ h => h) (Or.inl ⟨by rfl, ?_⟩) hHeld ?_ ?_
          rotate_left
          · intro w' hw'
            have hz := pw_cell_below hw' hcz0
            go_simp
            with_reducible rfl
          rotate_left
          · simp only [Act.put, List.setIfInBounds_toArray, List.set_cons_zero, List.set_cons_succ, i64_w, i32_w]
            rfl
          refine take_ (i := 8) (N := some 56) (v := ?_) (a' := ?_) #[true, true, true, true, true, true, true, true, true, false, false, false, false, false, false] rfl rfl (by kernel_rfl) (fun _ _ _ h => h) (Or.inl ⟨by rfl, ?_⟩) hHeld ?_ ?_
          rotate_left
          · intro w' hw'
            have hz := pw_cell_below hw' hcz1
            go_simp
            with_reducible rfl
          rotate_left
          · simp only [Act.put, List.setIfInBounds_toArray, List.set_cons_zero, List.set_cons_succ, i64_w, i32_w]
            rfl
          refine pure_ (i := 9) (N := some 57) (v := ?_) (a' := ?_) #[true, true, true, true, true, true, true, true, true, true, false, false, false, false, false] rfl rfl (by kernel_rfl) (fun _ _ _ h => h) (Or.inl ⟨by rfl, ?_⟩) ?_ ?_
          rotate_left
          · intro w'
            go_simp
            with_reducible rfl
          rotate_left
          · simp only [Act.put, List.setIfInBounds_toArray, List.set_cons_zero, List.set_cons_succ, i64_w, i32_w]
            rfl
          refine take_ (i := 10) (N := some 58) (v := ?_) (a' := ?_) #[true, true, true, true, true, true, true, true, true, true, true, false, false, false, false] rfl rfl (by kernel_rfl) (fun _ _ _ h => h) (Or.inl ⟨by rfl, ?_⟩) hHeld ?_ ?_
          rotate_left
          · intro w' hw'
            have hz := pw_cell_below hw' hx
            go_simp
            with_reducible rfl
          rotate_left
          · simp only [Act.put, List.setIfInBounds_toArray, List.set_cons_zero, List.set_cons_succ, i64_w, i32_w]
            rfl
          refine one_ (i := 11) (N := some 59) #[true, true, true, true, true, true, true, true, true, true, true, true, false, false, false] rfl rfl (by kernel_rfl) (by decide) (fun K hK => ?_)
          refine Kd.R_lit_step (w0 := wr) (Kd.int .u8) wr.heap.size 5 (by rfl) (N := 59) rfl (xs := [x]) (inner := [.int .u8 x]) (ok := fun _ => True) (okp := fun _ => True) ?hr ?hp (fun _ hk => hk) trivial hHeld hHeld.size (by simp) ?_
          (case hr => first|(go_simp;done)|(go_simp;rfl))
          (case hp => exact Reps.one (show Kd.M (Kd.int .u8) _ _ _ x [.int .u8 x] from rfl) (Reps.none _ _))
          intro v5 w5 ho5 hb5 hg5 hn5
          obtain ⟨A5, c5, rfl⟩ := Kd.R_slice ho5
          refine hK.out _ _ (hb5) (fun hHeld => ?_)
          clear hK K
          refine norm_ (a' := ?_) ?_ ?_
          rotate_left
          · show Act.put _ (some 59) _ = _
            simp only [Act.put, List.setIfInBounds_toArray, List.set_cons_zero, List.set_cons_succ, i64_w, i32_w]
            rfl
          refine one_ (i := 12) (N := some 60) #[true, true, true, true, true, true, true, true, true, true, true, true, true, false, false] rfl rfl (by kernel_rfl) (by decide) (fun K hK => ?_)
          have cv : (convert 78 9 (.slice A5 1 c5)).run Try.prog w5 = .ok (.string (strOfNums [x])) w5 := Kd.C_string (P := Try.prog) Try.underlying78 Try.underlying5 Try.underlying9 (c := c5) (Kd.R_reads' ho5).2.2
          refine value_ (w1 := ?_) (v := ?_) (by rfl) rfl ?_ ?_
          rotate_left 2
          · go_simp
            constructor
            · rfl
            · rfl
          refine hK.out _ _ (hHeld.trans ((Below.refl _ _).mono hHeld.size)) (fun hHeld => ?_)
          clear hK K
          refine norm_ (a' := ?_) ?_ ?_
          rotate_left
          · show Act.put _ (some 60) _ = _
            simp only [Act.put, List.setIfInBounds_toArray, List.set_cons_zero, List.set_cons_succ, i64_w, i32_w]
            rfl
          refine pure_ (i := 13) (N := some 61) (v := ?_) (a' := ?_) #[true, true, true, true, true, true, true, true, true, true, true, true, true, true, false] rfl rfl (by kernel_rfl) (fun _ _ _ h => h) (Or.inl ⟨by rfl, ?_⟩) ?_ ?_
          rotate_left
          · intro w'
            go_simp
            with_reducible rfl
          rotate_left
          · simp only [Act.put, List.setIfInBounds_toArray, List.set_cons_zero, List.set_cons_succ, i64_w, i32_w]
            rfl
          refine pure_ (i := 14) (N := some 7) (v := ?_) (a' := ?_) #[true, true, true, true, true, true, true, true, true, true, true, true, true, true, true] rfl rfl (by kernel_rfl) (fun _ _ _ h => h) (Or.inl ⟨by rfl, ?_⟩) ?_ ?_
          rotate_left
          · intro w'
            go_simp
            with_reducible rfl
          rotate_left
          · simp only [Act.put, List.setIfInBounds_toArray, List.set_cons_zero, List.set_cons_succ, i64_w, i32_w]
            rfl
          refine done_ (by kernel_rfl) ?_
          have HB5 := Aside0.mk hHeld
          have hz1 := pw_cell_below hHeld hcz1
          have hf1 : w5.frozen? ⟨g, 1, none⟩ = false := blk_frozen (blk_below HB.out hHeld) 1
          clear hb5 hg5 hn5 ho5 hcz0 hcz1 hx hblk
          go_wp2
          go_roundg (n.toNat - (kk + 1))
          case measure => exact R2.out
          case rel => exact ⟨kk + 1, _, R1.out, Nat.le_refl _, rfl, congrArg _ EW.out, ⟨by rw [HSt.out]; exact Q2.out⟩, ⟨by have h := (HX.out.drawn HB5.out).set_at (wrap64 (a + 1)); rw [EA.out] at h ⊢; exact h⟩⟩
        · have bi : decide ((kk : Int) < n) = false := decide_eq_false (by omega)
          have hke : kk = n.toNat := by have := HS.out; omega
          have HK := Aside0.mk hke
          have HK2 : Aside0 ((kk : Int) = n) := ⟨by have := HS.out; omega⟩
          clear hlt hkk hg hke
          generalize hi : (kk : Int) = i at bi ⊢
          clear hi
          go_wp2
          go_ret
          exact ⟨by rw [HSt.out, HK.out] <;> rfl, by have h := HX.out; rw [HK2.out] at h; exact h⟩
  · rw [if_neg he]
    have be : (e2 == 0) = false := beq_eq_false_iff_ne.mpr he
    have bn : (e2 != 0) = true := bne_iff_ne.mpr he
    clear he
    go_enter Try.func64, Try.ntmps64
    go_wp2_with (go_at_call 62; with_reducible refine (ref05_Int.own k top n at2 e2 HW.out.r5 HF.out).mono ?_; rintro en w9 ⟨rfl, h1, h2, h3⟩; have n1 := Aside0.mk (HW.out.trans ⟨h1, h2, h3, Nat.le_of_lt HW.out.r5.lt⟩); clear HW h1 h2 h3; have HW := n1; clear n1 h1z h1f; obtain ⟨A, c, hb, hblk, hcz0, hcz1, hcz2, hf1⟩ := HW.out.r5.facts; have hf2 := True.intro; clear hb; clear hf1 hf2)
    repeat (go_quiet (fail);try go_wp2)
    go_ret
    exact ⟨rfl, HW.out.drawn (Drawn0.below (by repeat (first | exact Drawn0.refl _ | apply Drawn0.step)))⟩
end Go.Proofs.Ytogdooclldoomaa.F
