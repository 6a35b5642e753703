import Derived.Test.YtogdooclldoomaaSrcOwn
import Derived.Test.YtogdooclldoomaaWords
import Derived.Test.YtogdooclldoomaaFRef07A
namespace Go.Proofs.Ytogdooclldoomaa.F
open Go.RowKit Go.Proofs.YtogdooclldoomaaW.PrintWords Go.Proofs.YtogdooclldoomaaW.PrintLast Go.Proofs.YtogdooclldoomaaW.PrintMore
set_option linter.unusedSimpArgs false
set_option linter.unusedVariables false
/-- Words is reflexive. -/
theorem words_same_l (l : List Int) (h : l.length ≤ 17592186044416) : ∀ (m i k : Nat), i + m = l.length → m < k → tombolaref07_Words.l0 k l l (i : Int) = some true := by
  intro m
  induction m with
  | zero =>
    intro i k hi hk
    obtain ⟨k, rfl⟩ : ∃ k', k = k' + 1 := ⟨k - 1, by omega⟩
    unfold tombolaref07_Words.l0
    rw [if_neg (by omega)]
  | succ m ih =>
    intro i k hi hk
    obtain ⟨k, rfl⟩ : ∃ k', k = k' + 1 := ⟨k - 1, by omega⟩
    have := ih (i + 1) k (by omega) (by omega)
    unfold tombolaref07_Words.l0
    rw [if_pos (by omega), if_pos (by omega), if_pos (by omega), if_pos rfl]
    have e : wrap64 ((i : Int) + 1) = ((i + 1 : Nat) : Int) := by unfold wrap64; omega
    rw [e]
    exact this
theorem words_same (l : List Int) (h : l.length ≤ 17592186044416) : ∃ k, tombolaref07_Words.f k l l = some true := by
  refine ⟨l.length + 1, ?_⟩
  unfold tombolaref07_Words.f
  rw [if_pos rfl]
  exact words_same_l l h l.length 0 _ (by omega) (by omega)
set_option maxHeartbeats 8000000 in
set_option maxRecDepth 100000 in
theorem tombolalaw07_WordsPlay.calls (A0 : Option Addr) (c0 : Nat) (l0 : List Int) (A1 : Option Addr) (c1 : Nat) (l1 : List S66) (w : World) (hr0 : Kd.C (Kd.int .u64) w A0 l0.length l0) (hc0 : l0.length ≤ c0) (hr1 : Kd.C k66 w A1 l1.length l1) (hc1 : l1.length ≤ c1) :
    Calls Try.prog 8 #[.slice A0 l0.length c0, .slice A1 l1.length c1] w fun e w' => e = .returned (.bool true) ∧ Below w.heap.size w w' := by
  have HR0 := Aside0.mk hr0
  have HC0 := Aside0.mk hc0
  have HR1 := Aside0.mk hr1
  have HC1 := Aside0.mk hc1
  clear hr0 hc0 hr1 hc1
  by_cases g1 : (l0.length : Int) > 200
  · have b1 : decide ((200 : Int) < (l0.length : Int)) = true := decide_eq_true g1
    clear g1
    go_enter Try.func8, Try.ntmps8
    go_wp2_with (go_at_call 41; refine (tombolalaw07_alive.calls _).mono ?_; rintro e w9 ⟨rfl, hb⟩; have HB := Aside0.mk hb; clear hb)
    go_ret
    exact ⟨rfl, HB.out⟩
  have b1 : decide ((200 : Int) < (l0.length : Int)) = false := decide_eq_false g1
  by_cases g2 : (l1.length : Int) > 60
  · have b2 : decide ((60 : Int) < (l1.length : Int)) = true := decide_eq_true g2
    clear g2
    go_enter Try.func8, Try.ntmps8
    go_wp2_with (go_at_call 41; refine (tombolalaw07_alive.calls _).mono ?_; rintro e w9 ⟨rfl, hb⟩; have HB := Aside0.mk hb; clear hb)
    go_ret
    exact ⟨rfl, HB.out⟩
  have b2 : decide ((60 : Int) < (l1.length : Int)) = false := decide_eq_false g2
  have HL0 : Aside0 (l0.length ≤ 200) := ⟨by omega⟩
  have HL1 : Aside0 (l1.length ≤ 60) := ⟨by omega⟩
  clear g1 g2
  go_enter Try.func8, Try.ntmps8
  go_wp2_with (first
    | ((with_reducible refine gate_dst (N := 25) rfl ?_);(try (refine gate_guard (by rfl) ?_;dsimp only));refine Kd.R_lit (Kd.int .u64) _ 23 ?hg (N := 25) ?hd (xs := ([] : List Int)) (inner := []) (ok := fun _ => True) (okp := fun _ => True) ?hr ?hp (fun _ hk => hk) trivial (Below.refl _ _) (Nat.le_refl _) (by simp) ?_;(case hd => rfl);(case hg => rfl);(case hr => first|(go_simp;done)|(go_simp;rfl));(case hp => exact (Reps.none _ _));intro v1 w1 ho1 hb1 hg_ hnew_;clear hg_ hnew_;have HB := Aside0.mk hb1;have HO := Aside0.mk ho1;clear hb1 ho1)
    | ((with_reducible refine gate_builtin (b := .append) (xs := #[.tmp 25, .tmp 26]) rfl ?_);(try (refine gate_guard (by rfl) ?_;dsimp only));at_builtin;refine Kd.R_append_rows (Kd.int .u64) (w0 := w) w.heap.size rfl (.tmp 25) (.tmp 26) 22 23 (.int .u64 0) 8 rfl Try.underlying22 info23 rfl (by decide) (by omega) v1 [] l0 _ _ _ (fun _ => True) (fun _ => False) rfl rfl ?aO ?aR (fun _ _ h => h) (fun _ h => h.elim) ?aF ?aB ?aS ?aL ?_;(case aR => exact Kd.C_below HR0.out HB.out);(case aB => exact HB.out);(case aF => exact (fun _ _ => trivial));(case aO => exact HO.out);(case aS => exact HB.out.size);(case aL => have := HL0.out;simp only [List.length_nil];omega);intro v2 w2 ho hb hg hat;clear HB HO;have HB := Aside0.mk (hb);have HO := Aside0.mk (show Kd.R (Kd.int .u64) 23 w2 w.heap.size (fun _ => True) v2 l0 from ho);clear hb ho hg hat;obtain ⟨A2, c2, ev2, hc2, hC2⟩ := Kd.R_reads HO.out;have HC2 := Aside0.mk hC2;have Hc2 := Aside0.mk hc2;subst ev2;clear hc2 hC2)
    | (go_at_call 42; refine (words_New.calls A2 c2 l0 _ HC2.out Hc2.out (by have := HL0.out; omega)).mono ?_; rintro e w3 ⟨g, v, rfl, hs, hb⟩; have HS := Aside0.mk hs; have HBn := Aside0.mk hb; clear hs hb))
  have HO3 := Aside0.mk (Kd.R_below HO.out HBn.out)
  have HS3 : Aside0 (Src w2.heap.size (fun k => w2.heap.size ≤ k) w3 g v l0 0) := ⟨HS.out.1, HS.out.2.1, Kd.R_mono (Kd.R_bound HS.out.2.2) (fun _ hk => hk.2.1)⟩
  have HB3 : Aside0 (Below w.heap.size w w3) := ⟨HB.out.trans (HBn.out.mono HB.out.size)⟩
  clear HS HC2 Hc2
  go_loopg [7] l0.length (fun gg s7 wr => ∃ (kk : Nat) (xs : List Int), kk ≤ l0.length ∧ l0.length - kk ≤ gg ∧ s7 = .int .i64 kk ∧ xs.length = l0.length ∧ Aside0 (Kd.R (Kd.int .u64) 23 wr w.heap.size (fun _ => True) (.slice A2 l0.length c2) xs) ∧ Aside0 (Src w2.heap.size (fun k => w2.heap.size ≤ k) wr g v l0 0) ∧ Aside0 (Below w.heap.size w wr))
  case atStart => exact ⟨0, l0, Nat.zero_le _, by omega, rfl, rfl, HO3, HS3, HB3⟩
  case round =>
    obtain ⟨kk, xs, hkk, hg, rfl, hxs, RO, RS, RB⟩ := hrel
    by_cases hlt : kk < l0.length
    · obtain ⟨go, co, eo, gb, gl, cl, HG⟩ := Kd.R_form HO.out (by omega)
      injection eo with ea_ en_ ec_
      subst ea_ ec_
      have h0 : 0 ≤ (kk : Int) := by omega
      have hltz : (kk : Int) < (l0.length : Int) := by omega
      obtain ⟨hx, hf⟩ := Kd.R_celln 0 RO.out (kk : Int) h0 hltz
      have HP := Aside0.mk (Kd.R_putg RO.out (kk : Int) (IntKind.u64.wrap (rdOf 0 xs (kk : Int) + 1)))
      rw [Int.toNat_natCast] at hx hf
      have GL := Aside0.mk gl
      have GB := Aside0.mk gb
      clear gl gb HG HO HO3 en_
      replace h0 := eq_true h0
      replace hltz := eq_true hltz
      go_wp2
      go_roundg (l0.length - (kk + 1))
      case measure => omega
      case rel =>
        have hl0 := HL0.out
        have ew : wrap64 ((kk : Int) + 1) = ((kk + 1 : Nat) : Int) := by unfold wrap64; omega
        refine ⟨kk + 1, xs.set kk (IntKind.u64.wrap (rdOf 0 xs (kk : Int) + 1)), by omega, by omega, by rw [ew], by rw [List.length_set]; exact hxs, ⟨?_⟩, ⟨?_⟩, ⟨?_⟩⟩
        · have := HP.out.1
          rw [Int.toNat_natCast] at this
          exact this
        · have hg := HP.out.2
          rw [Int.toNat_natCast] at hg
          have gl := GL.out
          have hr := RS.out.2.1
          refine ⟨blk_grown RS.out.1 hg ?_, RS.out.2.1, Kd.R_grown RS.out.2.2 hg ?_⟩
          · intro e; injection e with e; omega
          · intro k hk e; injection e with e; omega
        · exact RB.out.setCell GB.out _
    · go_wp2_with (first
        | ((with_reducible refine gate_dst (N := 42) rfl ?_);(try (refine gate_guard (by rfl) ?_;dsimp only));refine Kd.R_lit (Kd.int .u64) _ 23 ?hg (N := 42) ?hd (xs := ([] : List Int)) (inner := []) (ok := fun _ => True) (okp := fun _ => True) ?hr ?hp (fun _ hk => hk) trivial (Below.refl _ _) (Nat.le_refl _) (by simp) ?_;(case hd => rfl);(case hg => rfl);(case hr => first|(go_simp;done)|(go_simp;rfl));(case hp => exact (Reps.none _ _));intro v4 w4 ho1 hb1 hg_ hnew_;clear hg_ hnew_;have HBb := Aside0.mk hb1;have HOb := Aside0.mk ho1;clear hb1 ho1)
        | ((with_reducible refine gate_builtin (b := .append) (xs := #[.tmp 42, .tmp 43]) rfl ?_);(try (refine gate_guard (by rfl) ?_;dsimp only));at_builtin;refine Kd.R_append_rows (Kd.int .u64) (w0 := wr) wr.heap.size rfl (.tmp 42) (.tmp 43) 22 23 (.int .u64 0) 8 rfl Try.underlying22 info23 rfl (by decide) (by omega) v4 [] l0 _ _ _ (fun _ => True) (fun _ => False) rfl rfl ?aO ?aR (fun _ _ h => h) (fun _ h => h.elim) ?aF ?aB ?aS ?aL ?_;(case aR => exact Kd.C_below (Kd.C_below HR0.out RB.out) HBb.out);(case aB => exact HBb.out);(case aF => exact (fun _ _ => trivial));(case aO => exact HOb.out);(case aS => exact HBb.out.size);(case aL => have := HL0.out;simp only [List.length_nil];omega);intro u w5 ho hb hg hat;clear HBb HOb;have HBb := Aside0.mk (hb);have HOb := Aside0.mk (show Kd.R (Kd.int .u64) 23 w5 wr.heap.size (fun _ => True) u l0 from ho);clear hb ho hg hat))
      have HBc : Aside0 (Below w.heap.size w w5) := ⟨RB.out.trans (HBb.out.mono RB.out.size)⟩
      have HSc : Aside0 (Src w2.heap.size (fun k => w2.heap.size ≤ k ∧ k < wr.heap.size) w5 g v l0 0) := by
        have h := RS.out.below HBb.out
        exact ⟨h.1, h.2.1, Kd.R_below (Kd.R_mono (Kd.R_bound RS.out.2.2) (fun _ hk => ⟨hk.1, hk.2.2.1⟩)) HBb.out⟩
      have HRu : Aside0 (Kd.R (Kd.int .u64) 23 w5 wr.heap.size (fun _ => True) u l0) := HOb
      go_loopg [6, 8, 9, 10] l1.length (fun gg s6 s8 s9 s10 wx => ∃ (kk : Nat) (g : Nat) (v u : Value) (la : List Int) (at_ : Int), kk ≤ l1.length ∧ l1.length - kk ≤ gg ∧ s6 = .pointer (some ⟨g, 0, none⟩) ∧ s8 = u ∧ s9 = .int .i64 at_ ∧ s10 = .int .i64 kk ∧ 0 ≤ at_ ∧ at_ ≤ la.length ∧ la.length ≤ 200 + 50 * kk ∧ Aside0 (Src w.heap.size (fun k => some k ≠ u.ownBlock) wx g v la at_) ∧ Aside0 (Kd.R (Kd.int .u64) 23 wx w.heap.size (fun k => some k ≠ v.ownBlock) u la) ∧ Aside0 (Below w.heap.size w wx))
      case atStart =>
        have hs := HSc.out
        have hu := Kd.R_bound HRu.out
        have hw := HB.out.size
        have hw2 := RB.out.size
        have hl0 := HL0.out
        refine ⟨0, g, v, u, l0, 0, Nat.zero_le _, by omega, rfl, rfl, rfl, rfl, by omega, by omega, by omega, ⟨⟨hs.1, by have := hs.2.1; omega, Kd.R_lower (Kd.R_mono hs.2.2 ?_) hw⟩⟩, ⟨Kd.R_lower (Kd.R_mono hu ?_) hw2⟩, HBc⟩
        · intro k hk e
          have := (hu.1 k e.symm).2.1
          omega
        · intro k hk e
          have := (hs.2.2.1 k e.symm).2
          omega
      case round =>
        clear HSc HRu HBc HS3 HB3 HBn HOb HBb RO RS RB hxs HO HO3
        obtain ⟨kk, g, v, u, la, at_, hkk, hg, rfl, rfl, rfl, rfl, ha0, ha1, hla, XS, XU, XB⟩ := hrel
        by_cases hlt : kk < l1.length
        · have hltz : (kk : Int) < (l1.length : Int) := by omega
          obtain ⟨ad, A3, c3, rfl, q0, q1, q2, qc, qC⟩ := at_T66 HR1.out (kk : Int) (by omega) hltz
          replace q0 := pw_cell_below XB.out q0
          replace q1 := pw_cell_below XB.out q1
          replace q2 := pw_cell_below XB.out q2
          rw [Int.toNat_natCast] at q0 q1 q2
          generalize rd_T66 l1 (kk : Int) = a at q0 q1 q2 qc qC
          have hu := Try.underlying66
          have QC := Aside0.mk qC
          have Qc := Aside0.mk qc
          clear qC qc
          have hkz : 0 ≤ (kk : Int) := by omega
          replace hkz := eq_true hkz
          replace hltz := eq_true hltz
          by_cases g3 : (50 : Int) < (a.f2.length : Int)
          · have b3 : decide ((50 : Int) < (a.f2.length : Int)) = true := decide_eq_true g3
            clear g3
            go_wp2_with (go_at_call 41; refine (tombolalaw07_alive.calls _).mono ?_; rintro e w9 ⟨rfl, hb⟩; have HBz := Aside0.mk hb; clear hb)
            go_ret
            exact ⟨rfl, (XB.out.alloc XB.out.size _).trans (HBz.out.mono (XB.out.alloc XB.out.size _).size)⟩
          have b3 : decide ((50 : Int) < (a.f2.length : Int)) = false := decide_eq_false g3
          have LB : Aside0 (a.f2.length ≤ 50) := ⟨by omega⟩
          have LA : Aside0 (la.length ≤ 200 + 50 * kk ∧ kk ≤ 60) := ⟨hla, by have := HL1.out; omega⟩
          have HA : Aside0 (0 ≤ at_ ∧ at_ ≤ (la.length : Int)) := ⟨ha0, ha1⟩
          have HLT : Aside0 (kk < l1.length ∧ l1.length - kk ≤ gk) := ⟨hlt, hg⟩
          have R1 : Aside0 (kk + 1 ≤ l1.length) := ⟨by omega⟩
          have R3 : Aside0 (la.length ≤ 200 + 50 * (kk + 1)) := ⟨by omega⟩
          have R4 : Aside0 (l1.length - (kk + 1) < gk) := ⟨by omega⟩
          have EW : Aside0 (wrap64 ((kk : Int) + 1) = ((kk + 1 : Nat) : Int)) := ⟨by have := HL1.out; unfold wrap64; omega⟩
          obtain ⟨A6, c6, rfl, hc6, hC6⟩ := Kd.R_reads XU.out
          clear g3 ha0 ha1 hla hlt hg hkk hc6 hC6
          have XK : Aside0 ((wr.alloc (.cells #[.int .i64 a.f0, .int .i64 a.f1, .slice A3 a.f2.length c3] 66)).heap[wr.heap.size]? = some (.cells #[.int .i64 a.f0, .int .i64 a.f1, .slice A3 a.f2.length c3] 66 (0, 0))) := ⟨by simpa using heap_alloc_new _ _⟩
          have XBa : Below wr.heap.size wr (wr.alloc (.cells #[.int .i64 a.f0, .int .i64 a.f1, .slice A3 a.f2.length c3] 66)) := below_alloc (Below.refl _ _) _
          replace XS := Aside0.mk (XS.out.below XBa)
          replace XU := Aside0.mk (Kd.R_below XU.out XBa)
          replace XB := Aside0.mk (XB.out.trans (XBa.mono XB.out.size))
          clear XBa
          -- ROUND
          by_cases k0 : a.f0 = 0
          · have e0 : (a.f0 == 0) = true := beq_iff_eq.mpr k0
            clear k0
            by_cases hE : at_ = (la.length : Int)
            · have hpk : Aside0 (peeked la at_ = .tuple #[.int .u64 0, .int .i64 11]) := ⟨if_pos hE⟩
              have HE := Aside0.mk hE
              have bE : (at_ == (la.length : Int)) = true := beq_iff_eq.mpr hE
              have bL : decide (at_ < (la.length : Int)) = false := decide_eq_false (by omega)
              clear hE
              obtain ⟨kw, hkw⟩ := words_same la (by have := LA.out; omega)
              have KW := Aside0.mk hkw
              clear hkw
              go_wp2_with (first
                | (go_at_call 43; refine (words_Source_Peek.own XS.out HA.out.1 HA.out.2).mono ?_; rintro e w9 ⟨he, hd⟩; rw [hpk.out] at he; subst he; have hb := hd.below; have n1 := Aside0.mk (XS.out.below hb);have n2 := Aside0.mk (Kd.R_below XU.out hb);have n3 := Aside0.mk (XB.out.trans (hb.mono XB.out.size));have n4 := Aside0.mk (blk_below XK.out hb);clear XS XU XB XK;have XS := n1;have XU := n2;have XB := n3;have XK := n4;clear n1 n2 n3 n4;have p0 := (blk_cell XK.out 0).trans rfl;have p1 := (blk_cell XK.out 1).trans rfl;have p2 := (blk_cell XK.out 2).trans rfl; clear hd hb)
                | (go_at_call 44; refine (words_Source_Take.own XS.out HA.out.1 HA.out.2).mono ?_; rintro e w9 ⟨he, hm⟩; rw [hpk.out] at he; subst he; rw [if_pos HE.out] at hm; have n1 := Aside0.mk hm.src;have n2 := Aside0.mk (Kd.R_mono (Kd.R_keep (Kd.R_types XU.out XS.out.1 (by simp [Kd.int, Kd.scalar])) hm.keep (fun _ hk => hk.2)) (fun _ hk => hk.1));have n3 := Aside0.mk (XB.out.trans (hm.below.mono XS.out.2.1));have n4 := Aside0.mk (hm.keep.blk XK.out (blk_ne XK.out XS.out.1 (by decide)) (by simp));clear XS XU XB XK;have XS := n1;have XU := n2;have XB := n3;have XK := n4;clear n1 n2 n3 n4;have p0 := (blk_cell XK.out 0).trans rfl;have p1 := (blk_cell XK.out 1).trans rfl;have p2 := (blk_cell XK.out 2).trans rfl; clear hm)
                | (go_at_call 50; refine (words_Source_At.own XS.out).mono ?_; rintro e w9 ⟨rfl, hd⟩; have hb := hd.below; have n1 := Aside0.mk (XS.out.below hb);have n2 := Aside0.mk (Kd.R_below XU.out hb);have n3 := Aside0.mk (XB.out.trans (hb.mono XB.out.size));have n4 := Aside0.mk (blk_below XK.out hb);clear XS XU XB XK;have XS := n1;have XU := n2;have XB := n3;have XK := n4;clear n1 n2 n3 n4;have p0 := (blk_cell XK.out 0).trans rfl;have p1 := (blk_cell XK.out 1).trans rfl;have p2 := (blk_cell XK.out 2).trans rfl; clear hd hb)
                | (go_at_call 51; refine (words_Source_Left.own XS.out).mono ?_; rintro e w9 ⟨rfl, hd⟩; have hb := hd.below; have n1 := Aside0.mk (XS.out.below hb);have n2 := Aside0.mk (Kd.R_below XU.out hb);have n3 := Aside0.mk (XB.out.trans (hb.mono XB.out.size));have n4 := Aside0.mk (blk_below XK.out hb);clear XS XU XB XK;have XS := n1;have XU := n2;have XB := n3;have XK := n4;clear n1 n2 n3 n4;have p0 := (blk_cell XK.out 0).trans rfl;have p1 := (blk_cell XK.out 1).trans rfl;have p2 := (blk_cell XK.out 2).trans rfl; clear hd hb)
                | (go_at_call 49; refine (words_Source_All.own XS.out (by have := LA.out; omega)).mono ?_; rintro e w9 ⟨x, rfl, hR, hb⟩; obtain ⟨A5, c5, rfl, hc5, hC5⟩ := Kd.R_reads hR; have H5 := Aside0.mk hC5; have I5 := Aside0.mk hc5; have n1 := Aside0.mk (XS.out.below hb);have n2 := Aside0.mk (Kd.R_below XU.out hb);have n3 := Aside0.mk (XB.out.trans (hb.mono XB.out.size));have n4 := Aside0.mk (blk_below XK.out hb);clear XS XU XB XK;have XS := n1;have XU := n2;have XB := n3;have XK := n4;clear n1 n2 n3 n4;have p0 := (blk_cell XK.out 0).trans rfl;have p1 := (blk_cell XK.out 1).trans rfl;have p2 := (blk_cell XK.out 2).trans rfl; clear hR hb hc5 hC5)
                | (go_at_call 48; refine (tombolaref07_Words.calls kw _ _ la _ _ la true _ H5.out I5.out (Kd.R_reads' XU.out).2.2 (Kd.R_reads' XU.out).2.1 KW.out).mono ?_; rintro e w9 ⟨rfl, hd⟩; have hb := hd.below; have n1 := Aside0.mk (XS.out.below hb);have n2 := Aside0.mk (Kd.R_below XU.out hb);have n3 := Aside0.mk (XB.out.trans (hb.mono XB.out.size));have n4 := Aside0.mk (blk_below XK.out hb);clear XS XU XB XK;have XS := n1;have XU := n2;have XB := n3;have XK := n4;clear n1 n2 n3 n4;have p0 := (blk_cell XK.out 0).trans rfl;have p1 := (blk_cell XK.out 1).trans rfl;have p2 := (blk_cell XK.out 2).trans rfl; clear hd hb))
              go_roundg (l1.length - (kk + 1))
              case measure => exact R4.out
              case rel =>
                exact ⟨kk + 1, g, v, _, la, at_, R1.out, Nat.le_refl _, rfl, rfl, rfl, congrArg _ EW.out, HA.out.1, HA.out.2, R3.out, XS, XU, XB⟩
            · have hpk : Aside0 (peeked la at_ = .tuple #[.int .u64 (rd la at_), .int .i64 0]) := ⟨if_neg hE⟩
              have HNE := Aside0.mk hE
              have bE : (at_ == (la.length : Int)) = false := beq_eq_false_iff_ne.mpr hE
              have hn : at_ < (la.length : Int) := by have := HA.out.2; omega
              have HN := Aside0.mk hn
              have hw1 : Aside0 (wrap64 (at_ + 1) = at_ + 1) := ⟨by have := HA.out.1; have := LA.out; unfold wrap64; omega⟩
              have WA : Aside0 (0 ≤ wrap64 (at_ + 1) ∧ wrap64 (at_ + 1) ≤ (la.length : Int)) := ⟨by rw [hw1.out]; have := HA.out.1; omega, by rw [hw1.out]; have := HN.out; omega⟩
              have bL : decide (at_ < (la.length : Int)) = true := decide_eq_true hn
              have h0 : (0 ≤ at_) = True := eq_true HA.out.1
              replace hn := eq_true hn
              obtain ⟨ad6, ea6, _⟩ := Kd.at_int (Kd.R_reads' XU.out).2.2 at_ HA.out.1 HN.out
              subst ea6
              clear hE
              obtain ⟨kw, hkw⟩ := words_same la (by have := LA.out; omega)
              have KW := Aside0.mk hkw
              clear hkw
              go_wp2_with (first
                | (go_at_call 43; refine (words_Source_Peek.own XS.out HA.out.1 HA.out.2).mono ?_; rintro e w9 ⟨he, hd⟩; rw [hpk.out] at he; subst he; have hb := hd.below; have n1 := Aside0.mk (XS.out.below hb);have n2 := Aside0.mk (Kd.R_below XU.out hb);have n3 := Aside0.mk (XB.out.trans (hb.mono XB.out.size));have n4 := Aside0.mk (blk_below XK.out hb);clear XS XU XB XK;have XS := n1;have XU := n2;have XB := n3;have XK := n4;clear n1 n2 n3 n4;have p0 := (blk_cell XK.out 0).trans rfl;have p1 := (blk_cell XK.out 1).trans rfl;have p2 := (blk_cell XK.out 2).trans rfl; clear hd hb; obtain ⟨ad9, ea9, x9⟩ := Kd.at_int (Kd.R_reads' XU.out).2.2 at_ HA.out.1 HN.out; cases ea9)
                | (go_at_call 44; refine (words_Source_Take.own XS.out HA.out.1 HA.out.2).mono ?_; rintro e w9 ⟨he, hm⟩; rw [hpk.out] at he; subst he; rw [if_neg HNE.out] at hm; have n1 := Aside0.mk hm.src;have n2 := Aside0.mk (Kd.R_mono (Kd.R_keep (Kd.R_types XU.out XS.out.1 (by simp [Kd.int, Kd.scalar])) hm.keep (fun _ hk => hk.2)) (fun _ hk => hk.1));have n3 := Aside0.mk (XB.out.trans (hm.below.mono XS.out.2.1));have n4 := Aside0.mk (hm.keep.blk XK.out (blk_ne XK.out XS.out.1 (by decide)) (by simp));clear XS XU XB XK;have XS := n1;have XU := n2;have XB := n3;have XK := n4;clear n1 n2 n3 n4;have p0 := (blk_cell XK.out 0).trans rfl;have p1 := (blk_cell XK.out 1).trans rfl;have p2 := (blk_cell XK.out 2).trans rfl; clear hm; clear x9; obtain ⟨ad9, ea9, x9⟩ := Kd.at_int (Kd.R_reads' XU.out).2.2 at_ HA.out.1 HN.out; cases ea9)
                | (go_at_call 50; refine (words_Source_At.own XS.out).mono ?_; rintro e w9 ⟨rfl, hd⟩; have hb := hd.below; have n1 := Aside0.mk (XS.out.below hb);have n2 := Aside0.mk (Kd.R_below XU.out hb);have n3 := Aside0.mk (XB.out.trans (hb.mono XB.out.size));have n4 := Aside0.mk (blk_below XK.out hb);clear XS XU XB XK;have XS := n1;have XU := n2;have XB := n3;have XK := n4;clear n1 n2 n3 n4;have p0 := (blk_cell XK.out 0).trans rfl;have p1 := (blk_cell XK.out 1).trans rfl;have p2 := (blk_cell XK.out 2).trans rfl; clear hd hb)
                | (go_at_call 51; refine (words_Source_Left.own XS.out).mono ?_; rintro e w9 ⟨rfl, hd⟩; have hb := hd.below; have n1 := Aside0.mk (XS.out.below hb);have n2 := Aside0.mk (Kd.R_below XU.out hb);have n3 := Aside0.mk (XB.out.trans (hb.mono XB.out.size));have n4 := Aside0.mk (blk_below XK.out hb);clear XS XU XB XK;have XS := n1;have XU := n2;have XB := n3;have XK := n4;clear n1 n2 n3 n4;have p0 := (blk_cell XK.out 0).trans rfl;have p1 := (blk_cell XK.out 1).trans rfl;have p2 := (blk_cell XK.out 2).trans rfl; clear hd hb)
                | (go_at_call 49; refine (words_Source_All.own XS.out (by have := LA.out; omega)).mono ?_; rintro e w9 ⟨x, rfl, hR, hb⟩; obtain ⟨A5, c5, rfl, hc5, hC5⟩ := Kd.R_reads hR; have H5 := Aside0.mk hC5; have I5 := Aside0.mk hc5; have n1 := Aside0.mk (XS.out.below hb);have n2 := Aside0.mk (Kd.R_below XU.out hb);have n3 := Aside0.mk (XB.out.trans (hb.mono XB.out.size));have n4 := Aside0.mk (blk_below XK.out hb);clear XS XU XB XK;have XS := n1;have XU := n2;have XB := n3;have XK := n4;clear n1 n2 n3 n4;have p0 := (blk_cell XK.out 0).trans rfl;have p1 := (blk_cell XK.out 1).trans rfl;have p2 := (blk_cell XK.out 2).trans rfl; clear hR hb hc5 hC5)
                | (go_at_call 48; refine (tombolaref07_Words.calls kw _ _ la _ _ la true _ H5.out I5.out (Kd.R_reads' XU.out).2.2 (Kd.R_reads' XU.out).2.1 KW.out).mono ?_; rintro e w9 ⟨rfl, hd⟩; have hb := hd.below; have n1 := Aside0.mk (XS.out.below hb);have n2 := Aside0.mk (Kd.R_below XU.out hb);have n3 := Aside0.mk (XB.out.trans (hb.mono XB.out.size));have n4 := Aside0.mk (blk_below XK.out hb);clear XS XU XB XK;have XS := n1;have XU := n2;have XB := n3;have XK := n4;clear n1 n2 n3 n4;have p0 := (blk_cell XK.out 0).trans rfl;have p1 := (blk_cell XK.out 1).trans rfl;have p2 := (blk_cell XK.out 2).trans rfl; clear hd hb))
              go_roundg (l1.length - (kk + 1))
              case measure => exact R4.out
              case rel =>
                exact ⟨kk + 1, g, v, _, la, (wrap64 (at_ + 1)), R1.out, Nat.le_refl _, rfl, rfl, rfl, congrArg _ EW.out, WA.out.1, WA.out.2, R3.out, XS, XU, XB⟩
          by_cases k1 : a.f0 = 1
          · have e0 : (a.f0 == 0) = false := beq_eq_false_iff_ne.mpr k0
            have e1 : (a.f0 == 1) = true := beq_iff_eq.mpr k1
            clear k0 k1
            by_cases hE : at_ = (la.length : Int)
            · have hpk : Aside0 (peeked la at_ = .tuple #[.int .u64 0, .int .i64 11]) := ⟨if_pos hE⟩
              have HE := Aside0.mk hE
              have bE : (at_ == (la.length : Int)) = true := beq_iff_eq.mpr hE
              have bL : decide (at_ < (la.length : Int)) = false := decide_eq_false (by omega)
              clear hE
              obtain ⟨kw, hkw⟩ := words_same la (by have := LA.out; omega)
              have KW := Aside0.mk hkw
              clear hkw
              go_wp2_with (first
                | (go_at_call 43; refine (words_Source_Peek.own XS.out HA.out.1 HA.out.2).mono ?_; rintro e w9 ⟨he, hd⟩; rw [hpk.out] at he; subst he; have hb := hd.below; have n1 := Aside0.mk (XS.out.below hb);have n2 := Aside0.mk (Kd.R_below XU.out hb);have n3 := Aside0.mk (XB.out.trans (hb.mono XB.out.size));have n4 := Aside0.mk (blk_below XK.out hb);clear XS XU XB XK;have XS := n1;have XU := n2;have XB := n3;have XK := n4;clear n1 n2 n3 n4;have p0 := (blk_cell XK.out 0).trans rfl;have p1 := (blk_cell XK.out 1).trans rfl;have p2 := (blk_cell XK.out 2).trans rfl; clear hd hb)
                | (go_at_call 50; refine (words_Source_At.own XS.out).mono ?_; rintro e w9 ⟨rfl, hd⟩; have hb := hd.below; have n1 := Aside0.mk (XS.out.below hb);have n2 := Aside0.mk (Kd.R_below XU.out hb);have n3 := Aside0.mk (XB.out.trans (hb.mono XB.out.size));have n4 := Aside0.mk (blk_below XK.out hb);clear XS XU XB XK;have XS := n1;have XU := n2;have XB := n3;have XK := n4;clear n1 n2 n3 n4;have p0 := (blk_cell XK.out 0).trans rfl;have p1 := (blk_cell XK.out 1).trans rfl;have p2 := (blk_cell XK.out 2).trans rfl; clear hd hb)
                | (go_at_call 51; refine (words_Source_Left.own XS.out).mono ?_; rintro e w9 ⟨rfl, hd⟩; have hb := hd.below; have n1 := Aside0.mk (XS.out.below hb);have n2 := Aside0.mk (Kd.R_below XU.out hb);have n3 := Aside0.mk (XB.out.trans (hb.mono XB.out.size));have n4 := Aside0.mk (blk_below XK.out hb);clear XS XU XB XK;have XS := n1;have XU := n2;have XB := n3;have XK := n4;clear n1 n2 n3 n4;have p0 := (blk_cell XK.out 0).trans rfl;have p1 := (blk_cell XK.out 1).trans rfl;have p2 := (blk_cell XK.out 2).trans rfl; clear hd hb)
                | (go_at_call 49; refine (words_Source_All.own XS.out (by have := LA.out; omega)).mono ?_; rintro e w9 ⟨x, rfl, hR, hb⟩; obtain ⟨A5, c5, rfl, hc5, hC5⟩ := Kd.R_reads hR; have H5 := Aside0.mk hC5; have I5 := Aside0.mk hc5; have n1 := Aside0.mk (XS.out.below hb);have n2 := Aside0.mk (Kd.R_below XU.out hb);have n3 := Aside0.mk (XB.out.trans (hb.mono XB.out.size));have n4 := Aside0.mk (blk_below XK.out hb);clear XS XU XB XK;have XS := n1;have XU := n2;have XB := n3;have XK := n4;clear n1 n2 n3 n4;have p0 := (blk_cell XK.out 0).trans rfl;have p1 := (blk_cell XK.out 1).trans rfl;have p2 := (blk_cell XK.out 2).trans rfl; clear hR hb hc5 hC5)
                | (go_at_call 48; refine (tombolaref07_Words.calls kw _ _ la _ _ la true _ H5.out I5.out (Kd.R_reads' XU.out).2.2 (Kd.R_reads' XU.out).2.1 KW.out).mono ?_; rintro e w9 ⟨rfl, hd⟩; have hb := hd.below; have n1 := Aside0.mk (XS.out.below hb);have n2 := Aside0.mk (Kd.R_below XU.out hb);have n3 := Aside0.mk (XB.out.trans (hb.mono XB.out.size));have n4 := Aside0.mk (blk_below XK.out hb);clear XS XU XB XK;have XS := n1;have XU := n2;have XB := n3;have XK := n4;clear n1 n2 n3 n4;have p0 := (blk_cell XK.out 0).trans rfl;have p1 := (blk_cell XK.out 1).trans rfl;have p2 := (blk_cell XK.out 2).trans rfl; clear hd hb))
              go_roundg (l1.length - (kk + 1))
              case measure => exact R4.out
              case rel =>
                exact ⟨kk + 1, g, v, _, la, at_, R1.out, Nat.le_refl _, rfl, rfl, rfl, congrArg _ EW.out, HA.out.1, HA.out.2, R3.out, XS, XU, XB⟩
            · have hpk : Aside0 (peeked la at_ = .tuple #[.int .u64 (rd la at_), .int .i64 0]) := ⟨if_neg hE⟩
              have HNE := Aside0.mk hE
              have bE : (at_ == (la.length : Int)) = false := beq_eq_false_iff_ne.mpr hE
              have hn : at_ < (la.length : Int) := by have := HA.out.2; omega
              have HN := Aside0.mk hn
              have h0 : (0 ≤ at_) = True := eq_true HA.out.1
              replace hn := eq_true hn
              obtain ⟨ad6, ea6, _⟩ := Kd.at_int (Kd.R_reads' XU.out).2.2 at_ HA.out.1 HN.out
              subst ea6
              clear hE
              obtain ⟨kw, hkw⟩ := words_same la (by have := LA.out; omega)
              have KW := Aside0.mk hkw
              clear hkw
              go_wp2_with (first
                | (go_at_call 43; refine (words_Source_Peek.own XS.out HA.out.1 HA.out.2).mono ?_; rintro e w9 ⟨he, hd⟩; rw [hpk.out] at he; subst he; have hb := hd.below; have n1 := Aside0.mk (XS.out.below hb);have n2 := Aside0.mk (Kd.R_below XU.out hb);have n3 := Aside0.mk (XB.out.trans (hb.mono XB.out.size));have n4 := Aside0.mk (blk_below XK.out hb);clear XS XU XB XK;have XS := n1;have XU := n2;have XB := n3;have XK := n4;clear n1 n2 n3 n4;have p0 := (blk_cell XK.out 0).trans rfl;have p1 := (blk_cell XK.out 1).trans rfl;have p2 := (blk_cell XK.out 2).trans rfl; clear hd hb; obtain ⟨ad9, ea9, x9⟩ := Kd.at_int (Kd.R_reads' XU.out).2.2 at_ HA.out.1 HN.out; cases ea9)
                | (go_at_call 50; refine (words_Source_At.own XS.out).mono ?_; rintro e w9 ⟨rfl, hd⟩; have hb := hd.below; have n1 := Aside0.mk (XS.out.below hb);have n2 := Aside0.mk (Kd.R_below XU.out hb);have n3 := Aside0.mk (XB.out.trans (hb.mono XB.out.size));have n4 := Aside0.mk (blk_below XK.out hb);clear XS XU XB XK;have XS := n1;have XU := n2;have XB := n3;have XK := n4;clear n1 n2 n3 n4;have p0 := (blk_cell XK.out 0).trans rfl;have p1 := (blk_cell XK.out 1).trans rfl;have p2 := (blk_cell XK.out 2).trans rfl; clear hd hb)
                | (go_at_call 51; refine (words_Source_Left.own XS.out).mono ?_; rintro e w9 ⟨rfl, hd⟩; have hb := hd.below; have n1 := Aside0.mk (XS.out.below hb);have n2 := Aside0.mk (Kd.R_below XU.out hb);have n3 := Aside0.mk (XB.out.trans (hb.mono XB.out.size));have n4 := Aside0.mk (blk_below XK.out hb);clear XS XU XB XK;have XS := n1;have XU := n2;have XB := n3;have XK := n4;clear n1 n2 n3 n4;have p0 := (blk_cell XK.out 0).trans rfl;have p1 := (blk_cell XK.out 1).trans rfl;have p2 := (blk_cell XK.out 2).trans rfl; clear hd hb)
                | (go_at_call 49; refine (words_Source_All.own XS.out (by have := LA.out; omega)).mono ?_; rintro e w9 ⟨x, rfl, hR, hb⟩; obtain ⟨A5, c5, rfl, hc5, hC5⟩ := Kd.R_reads hR; have H5 := Aside0.mk hC5; have I5 := Aside0.mk hc5; have n1 := Aside0.mk (XS.out.below hb);have n2 := Aside0.mk (Kd.R_below XU.out hb);have n3 := Aside0.mk (XB.out.trans (hb.mono XB.out.size));have n4 := Aside0.mk (blk_below XK.out hb);clear XS XU XB XK;have XS := n1;have XU := n2;have XB := n3;have XK := n4;clear n1 n2 n3 n4;have p0 := (blk_cell XK.out 0).trans rfl;have p1 := (blk_cell XK.out 1).trans rfl;have p2 := (blk_cell XK.out 2).trans rfl; clear hR hb hc5 hC5)
                | (go_at_call 48; refine (tombolaref07_Words.calls kw _ _ la _ _ la true _ H5.out I5.out (Kd.R_reads' XU.out).2.2 (Kd.R_reads' XU.out).2.1 KW.out).mono ?_; rintro e w9 ⟨rfl, hd⟩; have hb := hd.below; have n1 := Aside0.mk (XS.out.below hb);have n2 := Aside0.mk (Kd.R_below XU.out hb);have n3 := Aside0.mk (XB.out.trans (hb.mono XB.out.size));have n4 := Aside0.mk (blk_below XK.out hb);clear XS XU XB XK;have XS := n1;have XU := n2;have XB := n3;have XK := n4;clear n1 n2 n3 n4;have p0 := (blk_cell XK.out 0).trans rfl;have p1 := (blk_cell XK.out 1).trans rfl;have p2 := (blk_cell XK.out 2).trans rfl; clear hd hb))
              go_roundg (l1.length - (kk + 1))
              case measure => exact R4.out
              case rel =>
                exact ⟨kk + 1, g, v, _, la, at_, R1.out, Nat.le_refl _, rfl, rfl, rfl, congrArg _ EW.out, HA.out.1, HA.out.2, R3.out, XS, XU, XB⟩
          by_cases k2 : a.f0 = 2
          · have e0 : (a.f0 == 0) = false := beq_eq_false_iff_ne.mpr k0
            have e1 : (a.f0 == 1) = false := beq_eq_false_iff_ne.mpr k1
            have e2 : (a.f0 == 2) = true := beq_iff_eq.mpr k2
            clear k0 k1 k2
            by_cases hin : 0 ≤ a.f1 ∧ a.f1 ≤ (la.length : Int)
            · have HIN := Aside0.mk hin
              have bA : decide (0 ≤ a.f1) = true := decide_eq_true hin.1
              have bB : decide (a.f1 ≤ (la.length : Int)) = true := decide_eq_true hin.2
              clear hin
              obtain ⟨kw, hkw⟩ := words_same la (by have := LA.out; omega)
              have KW := Aside0.mk hkw
              clear hkw
              go_wp2_with (first
                | (go_at_call 45; refine (words_Source_Seek.own a.f1 XS.out).mono ?_; rintro e w9 h; rw [if_pos HIN.out] at h; obtain ⟨rfl, hw⟩ := h; have hm := (Moved.refl XS.out).set (a.f1);rw [← hw] at hm;clear hw;have n1 := Aside0.mk hm.src;have n2 := Aside0.mk (Kd.R_mono (Kd.R_keep (Kd.R_types XU.out XS.out.1 (by simp [Kd.int, Kd.scalar])) hm.keep (fun _ hk => hk.2)) (fun _ hk => hk.1));have n3 := Aside0.mk (XB.out.trans (hm.below.mono XS.out.2.1));have n4 := Aside0.mk (hm.keep.blk XK.out (blk_ne XK.out XS.out.1 (by decide)) (by simp));clear XS XU XB XK;have XS := n1;have XU := n2;have XB := n3;have XK := n4;clear n1 n2 n3 n4;have p0 := (blk_cell XK.out 0).trans rfl;have p1 := (blk_cell XK.out 1).trans rfl;have p2 := (blk_cell XK.out 2).trans rfl;clear hm)
                | (go_at_call 50; refine (words_Source_At.own XS.out).mono ?_; rintro e w9 ⟨rfl, hd⟩; have hb := hd.below; have n1 := Aside0.mk (XS.out.below hb);have n2 := Aside0.mk (Kd.R_below XU.out hb);have n3 := Aside0.mk (XB.out.trans (hb.mono XB.out.size));have n4 := Aside0.mk (blk_below XK.out hb);clear XS XU XB XK;have XS := n1;have XU := n2;have XB := n3;have XK := n4;clear n1 n2 n3 n4;have p0 := (blk_cell XK.out 0).trans rfl;have p1 := (blk_cell XK.out 1).trans rfl;have p2 := (blk_cell XK.out 2).trans rfl; clear hd hb)
                | (go_at_call 51; refine (words_Source_Left.own XS.out).mono ?_; rintro e w9 ⟨rfl, hd⟩; have hb := hd.below; have n1 := Aside0.mk (XS.out.below hb);have n2 := Aside0.mk (Kd.R_below XU.out hb);have n3 := Aside0.mk (XB.out.trans (hb.mono XB.out.size));have n4 := Aside0.mk (blk_below XK.out hb);clear XS XU XB XK;have XS := n1;have XU := n2;have XB := n3;have XK := n4;clear n1 n2 n3 n4;have p0 := (blk_cell XK.out 0).trans rfl;have p1 := (blk_cell XK.out 1).trans rfl;have p2 := (blk_cell XK.out 2).trans rfl; clear hd hb)
                | (go_at_call 49; refine (words_Source_All.own XS.out (by have := LA.out; omega)).mono ?_; rintro e w9 ⟨x, rfl, hR, hb⟩; obtain ⟨A5, c5, rfl, hc5, hC5⟩ := Kd.R_reads hR; have H5 := Aside0.mk hC5; have I5 := Aside0.mk hc5; have n1 := Aside0.mk (XS.out.below hb);have n2 := Aside0.mk (Kd.R_below XU.out hb);have n3 := Aside0.mk (XB.out.trans (hb.mono XB.out.size));have n4 := Aside0.mk (blk_below XK.out hb);clear XS XU XB XK;have XS := n1;have XU := n2;have XB := n3;have XK := n4;clear n1 n2 n3 n4;have p0 := (blk_cell XK.out 0).trans rfl;have p1 := (blk_cell XK.out 1).trans rfl;have p2 := (blk_cell XK.out 2).trans rfl; clear hR hb hc5 hC5)
                | (go_at_call 48; refine (tombolaref07_Words.calls kw _ _ la _ _ la true _ H5.out I5.out (Kd.R_reads' XU.out).2.2 (Kd.R_reads' XU.out).2.1 KW.out).mono ?_; rintro e w9 ⟨rfl, hd⟩; have hb := hd.below; have n1 := Aside0.mk (XS.out.below hb);have n2 := Aside0.mk (Kd.R_below XU.out hb);have n3 := Aside0.mk (XB.out.trans (hb.mono XB.out.size));have n4 := Aside0.mk (blk_below XK.out hb);clear XS XU XB XK;have XS := n1;have XU := n2;have XB := n3;have XK := n4;clear n1 n2 n3 n4;have p0 := (blk_cell XK.out 0).trans rfl;have p1 := (blk_cell XK.out 1).trans rfl;have p2 := (blk_cell XK.out 2).trans rfl; clear hd hb))
              go_roundg (l1.length - (kk + 1))
              case measure => exact R4.out
              case rel =>
                exact ⟨kk + 1, g, v, _, la, a.f1, R1.out, Nat.le_refl _, rfl, rfl, rfl, congrArg _ EW.out, HIN.out.1, HIN.out.2, R3.out, XS, XU, XB⟩
            · by_cases hz : 0 ≤ a.f1
              · have HIN := Aside0.mk hin
                clear hin
                have bA : decide (0 ≤ a.f1) = true := decide_eq_true hz
                have bB : decide (a.f1 ≤ (la.length : Int)) = false := decide_eq_false (fun h => HIN.out ⟨hz, h⟩)
                clear hz
                obtain ⟨kw, hkw⟩ := words_same la (by have := LA.out; omega)
                have KW := Aside0.mk hkw
                clear hkw
                go_wp2_with (first
                  | (go_at_call 45; refine (words_Source_Seek.own a.f1 XS.out).mono ?_; rintro e w9 h; rw [if_neg HIN.out] at h; obtain ⟨rfl, hw⟩ := h; subst hw)
                  | (go_at_call 50; refine (words_Source_At.own XS.out).mono ?_; rintro e w9 ⟨rfl, hd⟩; have hb := hd.below; have n1 := Aside0.mk (XS.out.below hb);have n2 := Aside0.mk (Kd.R_below XU.out hb);have n3 := Aside0.mk (XB.out.trans (hb.mono XB.out.size));have n4 := Aside0.mk (blk_below XK.out hb);clear XS XU XB XK;have XS := n1;have XU := n2;have XB := n3;have XK := n4;clear n1 n2 n3 n4;have p0 := (blk_cell XK.out 0).trans rfl;have p1 := (blk_cell XK.out 1).trans rfl;have p2 := (blk_cell XK.out 2).trans rfl; clear hd hb)
                  | (go_at_call 51; refine (words_Source_Left.own XS.out).mono ?_; rintro e w9 ⟨rfl, hd⟩; have hb := hd.below; have n1 := Aside0.mk (XS.out.below hb);have n2 := Aside0.mk (Kd.R_below XU.out hb);have n3 := Aside0.mk (XB.out.trans (hb.mono XB.out.size));have n4 := Aside0.mk (blk_below XK.out hb);clear XS XU XB XK;have XS := n1;have XU := n2;have XB := n3;have XK := n4;clear n1 n2 n3 n4;have p0 := (blk_cell XK.out 0).trans rfl;have p1 := (blk_cell XK.out 1).trans rfl;have p2 := (blk_cell XK.out 2).trans rfl; clear hd hb)
                  | (go_at_call 49; refine (words_Source_All.own XS.out (by have := LA.out; omega)).mono ?_; rintro e w9 ⟨x, rfl, hR, hb⟩; obtain ⟨A5, c5, rfl, hc5, hC5⟩ := Kd.R_reads hR; have H5 := Aside0.mk hC5; have I5 := Aside0.mk hc5; have n1 := Aside0.mk (XS.out.below hb);have n2 := Aside0.mk (Kd.R_below XU.out hb);have n3 := Aside0.mk (XB.out.trans (hb.mono XB.out.size));have n4 := Aside0.mk (blk_below XK.out hb);clear XS XU XB XK;have XS := n1;have XU := n2;have XB := n3;have XK := n4;clear n1 n2 n3 n4;have p0 := (blk_cell XK.out 0).trans rfl;have p1 := (blk_cell XK.out 1).trans rfl;have p2 := (blk_cell XK.out 2).trans rfl; clear hR hb hc5 hC5)
                  | (go_at_call 48; refine (tombolaref07_Words.calls kw _ _ la _ _ la true _ H5.out I5.out (Kd.R_reads' XU.out).2.2 (Kd.R_reads' XU.out).2.1 KW.out).mono ?_; rintro e w9 ⟨rfl, hd⟩; have hb := hd.below; have n1 := Aside0.mk (XS.out.below hb);have n2 := Aside0.mk (Kd.R_below XU.out hb);have n3 := Aside0.mk (XB.out.trans (hb.mono XB.out.size));have n4 := Aside0.mk (blk_below XK.out hb);clear XS XU XB XK;have XS := n1;have XU := n2;have XB := n3;have XK := n4;clear n1 n2 n3 n4;have p0 := (blk_cell XK.out 0).trans rfl;have p1 := (blk_cell XK.out 1).trans rfl;have p2 := (blk_cell XK.out 2).trans rfl; clear hd hb))
                go_roundg (l1.length - (kk + 1))
                case measure => exact R4.out
                case rel =>
                  exact ⟨kk + 1, g, v, _, la, at_, R1.out, Nat.le_refl _, rfl, rfl, rfl, congrArg _ EW.out, HA.out.1, HA.out.2, R3.out, XS, XU, XB⟩
              · have HIN := Aside0.mk hin
                clear hin
                have bA : decide (0 ≤ a.f1) = false := decide_eq_false hz
                clear hz
                obtain ⟨kw, hkw⟩ := words_same la (by have := LA.out; omega)
                have KW := Aside0.mk hkw
                clear hkw
                go_wp2_with (first
                  | (go_at_call 45; refine (words_Source_Seek.own a.f1 XS.out).mono ?_; rintro e w9 h; rw [if_neg HIN.out] at h; obtain ⟨rfl, hw⟩ := h; subst hw)
                  | (go_at_call 50; refine (words_Source_At.own XS.out).mono ?_; rintro e w9 ⟨rfl, hd⟩; have hb := hd.below; have n1 := Aside0.mk (XS.out.below hb);have n2 := Aside0.mk (Kd.R_below XU.out hb);have n3 := Aside0.mk (XB.out.trans (hb.mono XB.out.size));have n4 := Aside0.mk (blk_below XK.out hb);clear XS XU XB XK;have XS := n1;have XU := n2;have XB := n3;have XK := n4;clear n1 n2 n3 n4;have p0 := (blk_cell XK.out 0).trans rfl;have p1 := (blk_cell XK.out 1).trans rfl;have p2 := (blk_cell XK.out 2).trans rfl; clear hd hb)
                  | (go_at_call 51; refine (words_Source_Left.own XS.out).mono ?_; rintro e w9 ⟨rfl, hd⟩; have hb := hd.below; have n1 := Aside0.mk (XS.out.below hb);have n2 := Aside0.mk (Kd.R_below XU.out hb);have n3 := Aside0.mk (XB.out.trans (hb.mono XB.out.size));have n4 := Aside0.mk (blk_below XK.out hb);clear XS XU XB XK;have XS := n1;have XU := n2;have XB := n3;have XK := n4;clear n1 n2 n3 n4;have p0 := (blk_cell XK.out 0).trans rfl;have p1 := (blk_cell XK.out 1).trans rfl;have p2 := (blk_cell XK.out 2).trans rfl; clear hd hb)
                  | (go_at_call 49; refine (words_Source_All.own XS.out (by have := LA.out; omega)).mono ?_; rintro e w9 ⟨x, rfl, hR, hb⟩; obtain ⟨A5, c5, rfl, hc5, hC5⟩ := Kd.R_reads hR; have H5 := Aside0.mk hC5; have I5 := Aside0.mk hc5; have n1 := Aside0.mk (XS.out.below hb);have n2 := Aside0.mk (Kd.R_below XU.out hb);have n3 := Aside0.mk (XB.out.trans (hb.mono XB.out.size));have n4 := Aside0.mk (blk_below XK.out hb);clear XS XU XB XK;have XS := n1;have XU := n2;have XB := n3;have XK := n4;clear n1 n2 n3 n4;have p0 := (blk_cell XK.out 0).trans rfl;have p1 := (blk_cell XK.out 1).trans rfl;have p2 := (blk_cell XK.out 2).trans rfl; clear hR hb hc5 hC5)
                  | (go_at_call 48; refine (tombolaref07_Words.calls kw _ _ la _ _ la true _ H5.out I5.out (Kd.R_reads' XU.out).2.2 (Kd.R_reads' XU.out).2.1 KW.out).mono ?_; rintro e w9 ⟨rfl, hd⟩; have hb := hd.below; have n1 := Aside0.mk (XS.out.below hb);have n2 := Aside0.mk (Kd.R_below XU.out hb);have n3 := Aside0.mk (XB.out.trans (hb.mono XB.out.size));have n4 := Aside0.mk (blk_below XK.out hb);clear XS XU XB XK;have XS := n1;have XU := n2;have XB := n3;have XK := n4;clear n1 n2 n3 n4;have p0 := (blk_cell XK.out 0).trans rfl;have p1 := (blk_cell XK.out 1).trans rfl;have p2 := (blk_cell XK.out 2).trans rfl; clear hd hb))
                go_roundg (l1.length - (kk + 1))
                case measure => exact R4.out
                case rel =>
                  exact ⟨kk + 1, g, v, _, la, at_, R1.out, Nat.le_refl _, rfl, rfl, rfl, congrArg _ EW.out, HA.out.1, HA.out.2, R3.out, XS, XU, XB⟩
          by_cases k3 : a.f0 = 3
          · have e0 : (a.f0 == 0) = false := beq_eq_false_iff_ne.mpr k0
            have e1 : (a.f0 == 1) = false := beq_eq_false_iff_ne.mpr k1
            have e2 : (a.f0 == 2) = false := beq_eq_false_iff_ne.mpr k2
            have e3 : (a.f0 == 3) = true := beq_iff_eq.mpr k3
            clear k0 k1 k2 k3
            obtain ⟨lb, hlb0⟩ : ∃ lb, lb = la ++ a.f2 := ⟨_, rfl⟩
            have hlb := Aside0.mk hlb0
            have LAx : Aside0 (lb.length = la.length + a.f2.length ∧ lb.length ≤ 200 + 50 * (kk + 1) ∧ kk ≤ 60) := ⟨by rw [hlb0, List.length_append], by have := LA.out; have := LB.out; rw [hlb0, List.length_append]; omega, LA.out.2⟩
            have AT9 : Aside0 (at_ ≤ (lb.length : Int)) := ⟨by have h1 := HA.out.2; have h2 := LAx.out.1; omega⟩
            clear hlb0
            obtain ⟨kw, hkw⟩ := words_same lb (by have := LAx.out; omega)
            have KW := Aside0.mk hkw
            clear hkw
            go_wp2_with (first
              | (go_at_call 46; refine (words_Source_Add.own A3 c3 a.f2 XS.out (fun k hk e => absurd ((Kd.R_bound XU.out).1 k e.symm).2.2.1 (by omega)) (Kd.C_below QC.out XB.out) Qc.out (by have := LA.out; have := LB.out; omega)).mono ?_; rintro e w9 ⟨rfl, v9, hs, hk, hb, ht⟩; rw [← hlb.out] at hs; have n1 := Aside0.mk hs;have n2 : Aside0 (Kd.R (Kd.int .u64) 23 w9 w.heap.size (fun k => some k ≠ v9.ownBlock) (.slice A6 la.length c6) la) := ⟨Kd.R_mono (Kd.R_step (Kd.R_bound (Kd.R_types XU.out XS.out.1 (by simp [Kd.int, Kd.scalar]))) (fun k hk1 hlt => hk.2 k hlt hk1.1.2 hk1.1.1)) (fun k hk1 e => ht.elim (fun h => hk1.1.1 (e.trans h)) (fun ⟨b, h1, h2⟩ => by have h3 := hk1.2.2.1; rw [h1] at e; injection e with e; omega))⟩;have n3 := Aside0.mk (XB.out.trans hb);have n4 := Aside0.mk (hk.blk XK.out (blk_ne XK.out XS.out.1 (by decide)) (Kd.R_ne XS.out.2.2 XK.out (by decide)));clear XS XU XB XK;have XS := n1;have XU := n2;have XB := n3;have XK := n4;clear n1 n2 n3 n4;have p0 := (blk_cell XK.out 0).trans rfl;have p1 := (blk_cell XK.out 1).trans rfl;have p2 := (blk_cell XK.out 2).trans rfl;clear hs hk hb ht)
              | ((with_reducible refine gate_builtin (b := .append) (xs := #[.tmp 146, .tmp 148]) rfl ?_);(try (refine gate_guard (by rfl) ?_;dsimp only));at_builtin;refine Kd.R_append_rows (Kd.int .u64) (w0 := w) w.heap.size rfl (.tmp 146) (.tmp 148) 22 23 (.int .u64 0) 8 rfl Try.underlying22 info23 rfl (by decide) (by omega) _ la a.f2 _ _ _ (fun k => some k ≠ v9.ownBlock) (fun _ => False) rfl rfl ?aO ?aR (fun _ _ h => h) (fun _ h => h.elim) ?aF ?aB ?aS ?aL ?_;(case aR => exact Kd.C_below QC.out XB.out);(case aB => exact XB.out);(case aF => exact (fun k hk e => absurd ((Kd.R_bound XS.out.2.2).1 k e.symm).2.2.1 (by omega)));(case aO => exact XU.out);(case aS => exact XB.out.size);(case aL => have := LA.out;have := LB.out;omega);intro u9 w9b ho hb hg hat;rw [← hlb.out] at ho;have n1 : Aside0 (Src w.heap.size (fun k => some k ≠ u9.ownBlock) w9b g v9 lb at_) := ⟨blk_grown XS.out.1 hg (Kd.R_ne XU.out XS.out.1 (by decide)), XS.out.2.1, Kd.R_mono (Kd.R_grown (Kd.R_bound XS.out.2.2) hg (fun k hk => hk.1)) (fun k hk1 e => hat.elim (fun h => hk1.1 (e.trans h)) (fun ⟨b, h1, h2⟩ => by have h3 := hk1.2.2.1; rw [h1] at e; injection e with e; omega))⟩;have n2 := Aside0.mk ho;have n3 := Aside0.mk hb;have n4 := Aside0.mk (blk_grown XK.out hg (Kd.R_ne XU.out XK.out (by decide)));clear XS XU XB XK;have XS := n1;have XU := n2;have XB := n3;have XK := n4;clear n1 n2 n3 n4;have p0 := (blk_cell XK.out 0).trans rfl;have p1 := (blk_cell XK.out 1).trans rfl;have p2 := (blk_cell XK.out 2).trans rfl;clear ho hb hg hat;obtain ⟨A8, c8, rfl⟩ := Kd.R_slice XU.out)
              | (go_at_call 50; refine (words_Source_At.own XS.out).mono ?_; rintro e w9 ⟨rfl, hd⟩; have hb := hd.below; have n1 := Aside0.mk (XS.out.below hb);have n2 := Aside0.mk (Kd.R_below XU.out hb);have n3 := Aside0.mk (XB.out.trans (hb.mono XB.out.size));have n4 := Aside0.mk (blk_below XK.out hb);clear XS XU XB XK;have XS := n1;have XU := n2;have XB := n3;have XK := n4;clear n1 n2 n3 n4;have p0 := (blk_cell XK.out 0).trans rfl;have p1 := (blk_cell XK.out 1).trans rfl;have p2 := (blk_cell XK.out 2).trans rfl; clear hd hb)
              | (go_at_call 51; refine (words_Source_Left.own XS.out).mono ?_; rintro e w9 ⟨rfl, hd⟩; have hb := hd.below; have n1 := Aside0.mk (XS.out.below hb);have n2 := Aside0.mk (Kd.R_below XU.out hb);have n3 := Aside0.mk (XB.out.trans (hb.mono XB.out.size));have n4 := Aside0.mk (blk_below XK.out hb);clear XS XU XB XK;have XS := n1;have XU := n2;have XB := n3;have XK := n4;clear n1 n2 n3 n4;have p0 := (blk_cell XK.out 0).trans rfl;have p1 := (blk_cell XK.out 1).trans rfl;have p2 := (blk_cell XK.out 2).trans rfl; clear hd hb)
              | (go_at_call 49; refine (words_Source_All.own XS.out (by have := LAx.out; omega)).mono ?_; rintro e w9 ⟨x, rfl, hR, hb⟩; obtain ⟨A5, c5, rfl, hc5, hC5⟩ := Kd.R_reads hR; have H5 := Aside0.mk hC5; have I5 := Aside0.mk hc5; have n1 := Aside0.mk (XS.out.below hb);have n2 := Aside0.mk (Kd.R_below XU.out hb);have n3 := Aside0.mk (XB.out.trans (hb.mono XB.out.size));have n4 := Aside0.mk (blk_below XK.out hb);clear XS XU XB XK;have XS := n1;have XU := n2;have XB := n3;have XK := n4;clear n1 n2 n3 n4;have p0 := (blk_cell XK.out 0).trans rfl;have p1 := (blk_cell XK.out 1).trans rfl;have p2 := (blk_cell XK.out 2).trans rfl; clear hR hb hc5 hC5)
              | (go_at_call 48; refine (tombolaref07_Words.calls kw _ _ lb _ _ lb true _ H5.out I5.out (Kd.R_reads' XU.out).2.2 (Kd.R_reads' XU.out).2.1 KW.out).mono ?_; rintro e w9 ⟨rfl, hd⟩; have hb := hd.below; have n1 := Aside0.mk (XS.out.below hb);have n2 := Aside0.mk (Kd.R_below XU.out hb);have n3 := Aside0.mk (XB.out.trans (hb.mono XB.out.size));have n4 := Aside0.mk (blk_below XK.out hb);clear XS XU XB XK;have XS := n1;have XU := n2;have XB := n3;have XK := n4;clear n1 n2 n3 n4;have p0 := (blk_cell XK.out 0).trans rfl;have p1 := (blk_cell XK.out 1).trans rfl;have p2 := (blk_cell XK.out 2).trans rfl; clear hd hb))
            go_roundg (l1.length - (kk + 1))
            case measure => exact R4.out
            case rel =>
              exact ⟨kk + 1, g, v9, _, lb, at_, R1.out, Nat.le_refl _, rfl, rfl, rfl, congrArg _ EW.out, HA.out.1, AT9.out, LAx.out.2.1, XS, XU, XB⟩
          by_cases k4 : a.f0 = 4
          · have e0 : (a.f0 == 0) = false := beq_eq_false_iff_ne.mpr k0
            have e1 : (a.f0 == 1) = false := beq_eq_false_iff_ne.mpr k1
            have e2 : (a.f0 == 2) = false := beq_eq_false_iff_ne.mpr k2
            have e3 : (a.f0 == 3) = false := beq_eq_false_iff_ne.mpr k3
            have e4 : (a.f0 == 4) = true := beq_iff_eq.mpr k4
            clear k0 k1 k2 k3 k4
            have ZZ : Aside0 ((0 : Int) ≤ 0 ∧ (0 : Int) ≤ (la.length : Int)) := ⟨by omega, by omega⟩
            obtain ⟨kw, hkw⟩ := words_same la (by have := LA.out; omega)
            have KW := Aside0.mk hkw
            clear hkw
            go_wp2_with (first
              | (go_at_call 47; refine (words_Source_Fork.own XS.out (by have := LA.out; omega)).mono ?_; rintro e w9 ⟨g2, u2, rfl, hs2, hb⟩; have n5 : Aside0 (Src w.heap.size (fun k => some k ≠ v.ownBlock ∧ some k ≠ (Value.slice A6 la.length c6).ownBlock) w9 g2 u2 la at_) := ⟨hs2.1, Nat.le_trans XB.out.size hs2.2.1, Kd.R_lower (Kd.R_mono (Kd.R_bound hs2.2.2) (fun k hk => ⟨fun e => absurd ((Kd.R_bound XS.out.2.2).1 k e.symm).2.2.1 (Nat.not_lt.mpr hk.2.1), fun e => absurd ((Kd.R_bound XU.out).1 k e.symm).2.2.1 (Nat.not_lt.mpr hk.2.1)⟩)) XB.out.size⟩;have n2 : Aside0 (Kd.R (Kd.int .u64) 23 w9 w.heap.size (fun k => some k ≠ v.ownBlock ∧ some k ≠ u2.ownBlock) (.slice A6 la.length c6) la) := ⟨Kd.R_below (Kd.R_mono (Kd.R_bound XU.out) (fun k hk => ⟨hk.1, fun e => absurd ((Kd.R_bound hs2.2.2).1 k e.symm).2.1 (Nat.not_le.mpr hk.2.2.1)⟩)) hb⟩;have hne : Aside0 (g2 ≠ g) := ⟨by have h1 := blk_lt XS.out.1; have h2 := hs2.2.1; omega⟩;have n1 := Aside0.mk (XS.out.below hb);have n3 := Aside0.mk (XB.out.trans (hb.mono XB.out.size));have n4 := Aside0.mk (blk_below XK.out hb);clear XS XU XB XK;have XS := n1;have XU := n2;have XB := n3;have XK := n4;have XT := n5;clear n1 n2 n3 n4 n5 hs2 hb)
              | (go_at_call 45; refine (words_Source_Seek.own 0 XS.out).mono ?_; rintro e w9 h; rw [if_pos ZZ.out] at h; obtain ⟨rfl, hw⟩ := h; have hm := (Moved.refl XS.out).set 0;rw [← hw] at hm;clear hw;have n1 := Aside0.mk hm.src;have n2 := Aside0.mk (Kd.R_mono (Kd.R_keep (Kd.R_types XU.out XS.out.1 (by simp [Kd.int, Kd.scalar])) hm.keep (fun _ hk => hk.2)) (fun _ hk => hk.1));have n3 := Aside0.mk (XB.out.trans (hm.below.mono XS.out.2.1));have n4 := Aside0.mk (hm.keep.blk XK.out (blk_ne XK.out XS.out.1 (by decide)) (by simp));have n5 : Aside0 (Src w.heap.size (fun k => some k ≠ v.ownBlock ∧ some k ≠ (Value.slice A6 la.length c6).ownBlock) w9 g2 u2 la at_) := ⟨hm.keep.blk XT.out.1 hne.out (by simp), XT.out.2.1, Kd.R_mono (Kd.R_keep (Kd.R_types XT.out.2.2 XS.out.1 (by simp [Kd.int, Kd.scalar])) hm.keep (fun _ hk => hk.2)) (fun _ hk => hk.1)⟩;clear XS XU XB XK XT;have XS := n1;have XU := n2;have XB := n3;have XK := n4;have XT := n5;clear n1 n2 n3 n4 n5;have p0 := (blk_cell XK.out 0).trans rfl;have p1 := (blk_cell XK.out 1).trans rfl;have p2 := (blk_cell XK.out 2).trans rfl;clear hm)
              | ((with_reducible refine gate_dst (N := 166) rfl ?_);(try (refine gate_guard (by rfl) ?_;dsimp only));refine Kd.R_lit (Kd.int .u64) _ 23 ?hg (N := 166) ?hd (xs := ([1] : List Int)) (inner := [.int .u64 1]) (ok := fun _ => True) (okp := fun _ => True) ?hr ?hp (fun _ hk => hk) trivial (Below.refl _ _) (Nat.le_refl _) (by simp) ?_;(case hd => rfl);(case hg => rfl);(case hr => first|(go_simp;done)|(go_simp;rfl));(case hp => exact (Reps.one (show Kd.M (Kd.int .u64) _ _ _ 1 [.int .u64 1] from rfl) (Reps.none _ _)));intro v9 w9 ho1 hb hg_ hnew_;clear hg_ hnew_;obtain ⟨A9, c9, ev9, hc9, hC9⟩ := Kd.R_reads ho1;have H9 := Aside0.mk hC9;have I9 := Aside0.mk hc9;subst ev9;have n1 := Aside0.mk (XS.out.below hb);have n2 := Aside0.mk (Kd.R_below XU.out hb);have n3 := Aside0.mk (XB.out.trans (hb.mono XB.out.size));have n4 := Aside0.mk (blk_below XK.out hb);have n5 := Aside0.mk (XT.out.below hb);clear XS XU XB XK XT;have XS := n1;have XU := n2;have XB := n3;have XK := n4;have XT := n5;clear n1 n2 n3 n4 n5;have p0 := (blk_cell XK.out 0).trans rfl;have p1 := (blk_cell XK.out 1).trans rfl;have p2 := (blk_cell XK.out 2).trans rfl;clear hb ho1 hc9 hC9)
              | (go_at_call 46; refine (words_Source_Add.own A9 c9 [1] XS.out (fun k hk e => absurd ((Kd.R_bound XU.out).1 k e.symm).2.2.1 (by omega)) H9.out I9.out (by have := LA.out; simp only [List.length_cons, List.length_nil]; omega)).mono ?_; rintro e w9 ⟨rfl, v8, hs, hk, hb, ht⟩; have n2 : Aside0 (Kd.R (Kd.int .u64) 23 w9 w.heap.size (fun k => some k ≠ u2.ownBlock) (.slice A6 la.length c6) la) := ⟨Kd.R_mono (Kd.R_step (Kd.R_bound (Kd.R_types XU.out XS.out.1 (by simp [Kd.int, Kd.scalar]))) (fun k hk1 hlt => hk.2 k hlt hk1.1.2 hk1.1.1.1)) (fun k hk1 => hk1.1.1.2)⟩;have n1 : Aside0 (Src w.heap.size (fun k => some k ≠ (Value.slice A6 la.length c6).ownBlock) w9 g2 u2 la at_) := ⟨hk.blk XT.out.1 hne.out (Kd.R_ne XS.out.2.2 XT.out.1 (by decide)), XT.out.2.1, Kd.R_mono (Kd.R_step (Kd.R_bound (Kd.R_types XT.out.2.2 XS.out.1 (by simp [Kd.int, Kd.scalar]))) (fun k hk1 hlt => hk.2 k hlt hk1.1.2 hk1.1.1.1)) (fun k hk1 => hk1.1.1.2)⟩;have n3 := Aside0.mk (XB.out.trans hb);have n4 := Aside0.mk (hk.blk XK.out (blk_ne XK.out XS.out.1 (by decide)) (Kd.R_ne XS.out.2.2 XK.out (by decide)));clear XT;have XT := n1;clear XS XU XB XK;have XS := n1;have XU := n2;have XB := n3;have XK := n4;clear n1 n2 n3 n4;have p0 := (blk_cell XK.out 0).trans rfl;have p1 := (blk_cell XK.out 1).trans rfl;have p2 := (blk_cell XK.out 2).trans rfl;clear hs hk hb ht)
              | (go_at_call 50; refine (words_Source_At.own XT.out).mono ?_; rintro e w9 ⟨rfl, hd⟩; have hb := hd.below; have n1 := Aside0.mk (XS.out.below hb);have n2 := Aside0.mk (Kd.R_below XU.out hb);have n3 := Aside0.mk (XB.out.trans (hb.mono XB.out.size));have n4 := Aside0.mk (blk_below XK.out hb);have n5 := Aside0.mk (XT.out.below hb);clear XS XU XB XK XT;have XS := n1;have XU := n2;have XB := n3;have XK := n4;have XT := n5;clear n1 n2 n3 n4 n5;have p0 := (blk_cell XK.out 0).trans rfl;have p1 := (blk_cell XK.out 1).trans rfl;have p2 := (blk_cell XK.out 2).trans rfl; clear hd hb)
              | (go_at_call 51; refine (words_Source_Left.own XT.out).mono ?_; rintro e w9 ⟨rfl, hd⟩; have hb := hd.below; have n1 := Aside0.mk (XS.out.below hb);have n2 := Aside0.mk (Kd.R_below XU.out hb);have n3 := Aside0.mk (XB.out.trans (hb.mono XB.out.size));have n4 := Aside0.mk (blk_below XK.out hb);have n5 := Aside0.mk (XT.out.below hb);clear XS XU XB XK XT;have XS := n1;have XU := n2;have XB := n3;have XK := n4;have XT := n5;clear n1 n2 n3 n4 n5;have p0 := (blk_cell XK.out 0).trans rfl;have p1 := (blk_cell XK.out 1).trans rfl;have p2 := (blk_cell XK.out 2).trans rfl; clear hd hb)
              | (go_at_call 49; refine (words_Source_All.own XT.out (by have := LA.out; omega)).mono ?_; rintro e w9 ⟨x, rfl, hR, hb⟩; obtain ⟨A5, c5, rfl, hc5, hC5⟩ := Kd.R_reads hR; have H5 := Aside0.mk hC5; have I5 := Aside0.mk hc5; have n1 := Aside0.mk (XS.out.below hb);have n2 := Aside0.mk (Kd.R_below XU.out hb);have n3 := Aside0.mk (XB.out.trans (hb.mono XB.out.size));have n4 := Aside0.mk (blk_below XK.out hb);have n5 := Aside0.mk (XT.out.below hb);clear XS XU XB XK XT;have XS := n1;have XU := n2;have XB := n3;have XK := n4;have XT := n5;clear n1 n2 n3 n4 n5;have p0 := (blk_cell XK.out 0).trans rfl;have p1 := (blk_cell XK.out 1).trans rfl;have p2 := (blk_cell XK.out 2).trans rfl; clear hR hb hc5 hC5)
              | (go_at_call 48; refine (tombolaref07_Words.calls kw _ _ la _ _ la true _ H5.out I5.out (Kd.R_reads' XU.out).2.2 (Kd.R_reads' XU.out).2.1 KW.out).mono ?_; rintro e w9 ⟨rfl, hd⟩; have hb := hd.below; have n1 := Aside0.mk (XS.out.below hb);have n2 := Aside0.mk (Kd.R_below XU.out hb);have n3 := Aside0.mk (XB.out.trans (hb.mono XB.out.size));have n4 := Aside0.mk (blk_below XK.out hb);have n5 := Aside0.mk (XT.out.below hb);clear XS XU XB XK XT;have XS := n1;have XU := n2;have XB := n3;have XK := n4;have XT := n5;clear n1 n2 n3 n4 n5;have p0 := (blk_cell XK.out 0).trans rfl;have p1 := (blk_cell XK.out 1).trans rfl;have p2 := (blk_cell XK.out 2).trans rfl; clear hd hb))
            go_roundg (l1.length - (kk + 1))
            case measure => exact R4.out
            case rel =>
              exact ⟨kk + 1, g2, u2, _, la, at_, R1.out, Nat.le_refl _, rfl, rfl, rfl, congrArg _ EW.out, HA.out.1, HA.out.2, R3.out, XS, XU, XB⟩
          · have e0 : (a.f0 == 0) = false := beq_eq_false_iff_ne.mpr k0
            have e1 : (a.f0 == 1) = false := beq_eq_false_iff_ne.mpr k1
            have e2 : (a.f0 == 2) = false := beq_eq_false_iff_ne.mpr k2
            have e3 : (a.f0 == 3) = false := beq_eq_false_iff_ne.mpr k3
            have e4 : (a.f0 == 4) = false := beq_eq_false_iff_ne.mpr k4
            clear k0 k1 k2 k3 k4
            obtain ⟨kw, hkw⟩ := words_same la (by have := LA.out; omega)
            have KW := Aside0.mk hkw
            clear hkw
            go_wp2_with (first
              | (go_at_call 50; refine (words_Source_At.own XS.out).mono ?_; rintro e w9 ⟨rfl, hd⟩; have hb := hd.below; have n1 := Aside0.mk (XS.out.below hb);have n2 := Aside0.mk (Kd.R_below XU.out hb);have n3 := Aside0.mk (XB.out.trans (hb.mono XB.out.size));have n4 := Aside0.mk (blk_below XK.out hb);clear XS XU XB XK;have XS := n1;have XU := n2;have XB := n3;have XK := n4;clear n1 n2 n3 n4;have p0 := (blk_cell XK.out 0).trans rfl;have p1 := (blk_cell XK.out 1).trans rfl;have p2 := (blk_cell XK.out 2).trans rfl; clear hd hb)
              | (go_at_call 51; refine (words_Source_Left.own XS.out).mono ?_; rintro e w9 ⟨rfl, hd⟩; have hb := hd.below; have n1 := Aside0.mk (XS.out.below hb);have n2 := Aside0.mk (Kd.R_below XU.out hb);have n3 := Aside0.mk (XB.out.trans (hb.mono XB.out.size));have n4 := Aside0.mk (blk_below XK.out hb);clear XS XU XB XK;have XS := n1;have XU := n2;have XB := n3;have XK := n4;clear n1 n2 n3 n4;have p0 := (blk_cell XK.out 0).trans rfl;have p1 := (blk_cell XK.out 1).trans rfl;have p2 := (blk_cell XK.out 2).trans rfl; clear hd hb)
              | (go_at_call 49; refine (words_Source_All.own XS.out (by have := LA.out; omega)).mono ?_; rintro e w9 ⟨x, rfl, hR, hb⟩; obtain ⟨A5, c5, rfl, hc5, hC5⟩ := Kd.R_reads hR; have H5 := Aside0.mk hC5; have I5 := Aside0.mk hc5; have n1 := Aside0.mk (XS.out.below hb);have n2 := Aside0.mk (Kd.R_below XU.out hb);have n3 := Aside0.mk (XB.out.trans (hb.mono XB.out.size));have n4 := Aside0.mk (blk_below XK.out hb);clear XS XU XB XK;have XS := n1;have XU := n2;have XB := n3;have XK := n4;clear n1 n2 n3 n4;have p0 := (blk_cell XK.out 0).trans rfl;have p1 := (blk_cell XK.out 1).trans rfl;have p2 := (blk_cell XK.out 2).trans rfl; clear hR hb hc5 hC5)
              | (go_at_call 48; refine (tombolaref07_Words.calls kw _ _ la _ _ la true _ H5.out I5.out (Kd.R_reads' XU.out).2.2 (Kd.R_reads' XU.out).2.1 KW.out).mono ?_; rintro e w9 ⟨rfl, hd⟩; have hb := hd.below; have n1 := Aside0.mk (XS.out.below hb);have n2 := Aside0.mk (Kd.R_below XU.out hb);have n3 := Aside0.mk (XB.out.trans (hb.mono XB.out.size));have n4 := Aside0.mk (blk_below XK.out hb);clear XS XU XB XK;have XS := n1;have XU := n2;have XB := n3;have XK := n4;clear n1 n2 n3 n4;have p0 := (blk_cell XK.out 0).trans rfl;have p1 := (blk_cell XK.out 1).trans rfl;have p2 := (blk_cell XK.out 2).trans rfl; clear hd hb))
            go_roundg (l1.length - (kk + 1))
            case measure => exact R4.out
            case rel =>
              exact ⟨kk + 1, g, v, _, la, at_, R1.out, Nat.le_refl _, rfl, rfl, rfl, congrArg _ EW.out, HA.out.1, HA.out.2, R3.out, XS, XU, XB⟩
          -- END
        · go_wp2_with (go_at_call 41; refine (tombolalaw07_alive.calls _).mono ?_; rintro e w9 ⟨rfl, hb⟩; have HBz := Aside0.mk hb; clear hb)
          go_ret
          exact ⟨rfl, XB.out.trans (HBz.out.mono XB.out.size)⟩
theorem mainWordsPlay (A0 : Option Addr) (c0 : Nat) (l0 : List Int) (A1 : Option Addr) (c1 : Nat) (l1 : List S66) (w : World) (hr0 : Kd.C (Kd.int .u64) w A0 l0.length l0) (hc0 : l0.length ≤ c0) {P Q R : Prop} (_ : P) (_ : Q) (hr1 : Kd.C k66 w A1 l1.length l1) (hc1 : l1.length ≤ c1) (_ : R) :
    Calls Try.prog 8 #[.slice A0 l0.length c0, .slice A1 l1.length c1] w fun e w' => e = .returned (.bool true) ∧ Below w.heap.size w w' := tombolalaw07_WordsPlay.calls A0 c0 l0 A1 c1 l1 w hr0 hc0 hr1 hc1
end Go.Proofs.Ytogdooclldoomaa.F
